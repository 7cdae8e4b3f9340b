/- Contracts: what to decide next, the schedule of a domain of one. -/
import Derived.Test.YtmenphiahgkjkaaGreatDoorC51
import Derived.Test.YtmenphiahgkjkaaGreatDoorC22
import Derived.Test.YtmenphiahgkjkaaGreatDoorLg
set_option linter.all false
set_option maxRecDepth 20000
set_option maxHeartbeats 0
namespace Go.Proofs.YtmenphiahgkjkaaGreatDoor.Abs
open Go.Proofs Go.RowKit
def Jz (b:Dom) (i:Nat):Bool:=decide (((b.modes.getD i []).length:Int) > 1)||decide (b.lo.getD i 0 < b.hi.getD i 0)
def uf (b:Dom):Nat→Nat→Int→Int
 |0,_,k=>k
 |r+1,i,k=>uf b r (i+1) (if Jz b i=true∧(k < 0∨b.lo.getD i 0 < b.lo.getD k.toNat 0) then i else k)
theorem Nl (b:Dom) (i:Nat) (k:Int):uf b 0 i k=k:=rfl
theorem Nn (b:Dom) (r i:Nat) (k:Int):uf b (r+1) i k=uf b r (i+1) (if Jz b i=true∧(k < 0∨b.lo.getD i 0 < b.lo.getD k.toNat 0) then i else k):=rfl
def OQ (a:aC) (m:Int):Int:=(a.modes.getD m.toNat ⟨0,[],[]⟩).dur
def ug (a:aC):List Int→Int→Int
 |[],k=>k
 |m::r,k=>ug a r (if OQ a m < OQ a k then m else k)
theorem Rf (a:aC) (k:Int):ug a [] k=k:=rfl
theorem Np (a:aC) (m:Int) (r:List Int) (k:Int):ug a (m::r) k=ug a r (if OQ a m < OQ a k then m else k):=rfl
def Mg (p:Proj) (b:Dom) (k:Int):Option Lit:=
 if k < 0 then none
 else if ((b.modes.getD k.toNat []).length:Int) < 2 then some ⟨2,k,b.lo.getD k.toNat 0⟩
 else some ⟨3,k,ug (aZ p k.toNat) (b.modes.getD k.toNat []) ((b.modes.getD k.toNat []).headD 0)⟩
def choice (p:Proj) (b:Dom):Option Lit:=if usable p b=true then Mg p b (uf b p.acts.length 0 (-1)) else none
theorem OT {p:Proj} {b:Dom} (hu:usable p b=true) {k:Nat} {x y:Int} {m:List Int} (hx:b.lo[k]? =some x) (hy:b.hi[k]? =some y) (hm:b.modes[k]? =some m):x≤y∧0 < m.length:=by
 have h:=(mH hu).2
 simp only [aP,Bool.or_eq_false_iff,List.any_eq_false,List.mem_range] at h
 have h1:=h.1 k (List.getElem?_eq_some_iff.1 hx).1
 have h2:=h.2 m (List.mem_of_getElem? hm)
 simp only [nE,hx,hy,decide_eq_true_eq] at h1
 simp only [decide_eq_true_eq] at h2
 omega
def Zp (o:Option Lit):RV:=.tup [.d (o.getD bU).av,.d (.bool o.isSome)]
theorem XT {p:Proj} {b:Dom} (h:usable p b=false):choice p b=none:=by rw [choice,if_neg (by rw [h];nofun)]
theorem uW {α:Type} {l:List α} {k:Nat} {x d:α} (h:l[k]? =some x):l.getD k d=x:=by rw [List.getD_eq_getElem?_getD,h];rfl
theorem VN {p:Proj} {b:Dom} {i:Nat} {a:aC} {x y:Int} {m:List Int} (g:fV p b i a x y m):Jz b i=true↔((m.length:Int) > 1∨x < y):=by
 simp only [Jz,uW g.modes,uW g.lo,uW g.hi,Bool.or_eq_true,decide_eq_true_eq]
theorem OU {p:Proj} {b:Dom} {i:Nat} {a:aC} {x y:Int} {m:List Int} (g:fV p b i a x y m) {n:Int} (hn:n∈m):∃(j:Nat) (o:Mode),n=j∧a.modes[j]? =some o∧OQ a n=o.dur:=by
 obtain⟨j,rfl,hj⟩:=g.aah n hn
 refine⟨j,a.modes[j],rfl,by simp,?_⟩
 unfold OQ
 rw [Int.toNat_natCast,uW (show a.modes[j]? =some a.modes[j] by simp)]
def WW (b:Dom) (i:Nat):Bool:=
 match b.lo[i]?,b.hi[i]?,b.modes[i]? with
 |some x,some y,some m=>decide (x=y)&&decide ((m.length:Int)=1)
 |_,_,_=>true
def single (b:Dom):Option aJ:=if b.lo.length=b.hi.length∧b.lo.length=b.modes.length∧CV b.lo.length (WW b)=true then some ⟨b.lo,b.modes.map (·.headD 0)⟩ else none
def Zq (o:Option aJ):RV:=.tup [.agg [.lin 3 ((o.getD ⟨[],[]⟩).starts.map i64),.lin 3 ((o.getD ⟨[],[]⟩).modes.map i64)],.d (.bool o.isSome)]
theorem rG (p:Proj) (b:Dom) (hp:p.fine):Con 59 [.d p.av,.d b.av] (Zp (choice p b)):=by
 refine con Tryz.func59 rfl rfl Tryz.call59 rfl fun hwf=>?_
 simp only [ARs.wf,AR.wf,AV.wf,AV.wfs,lm,lim] at hwf
 have hU:=iO p b hp
 cases hu:usable p b with
 |false=>
  rw [hu] at hU
  rw [XT hu]
  (repeat' ((conv=>whnf);first|refine gA ?_|(refine gB ?_ ?_<;>intro h)|(refine gI ?_;intro x hx)|(refine gJ ?_;intro j x hj hx)|refine gV ?_|refine gC (hU) ?_|intro _))<;>try (conv=>whnf)
  exact fv
 |true=>
 rw [hu] at hU
 have hf:=zL hu
 have hna:=(fG (bZ hf).1).KS
 generalize hR:choice p b=R
 rw [choice,if_pos hu] at hR
 generalize hQ:uf b p.acts.length 0 (-1)=Q at hR
 (repeat' ((conv=>whnf);first|refine gA ?_|(refine gB ?_ ?_<;>intro h)|(refine gI ?_;intro x hx)|(refine gJ ?_;intro j x hj hx)|refine gV ?_|refine gC (hU) ?_|intro _))<;>try (conv=>whnf)
 refine aB [2,3,4,19] [2,3,4] [] ?_
 (conv=>whnf)
 refine aA.go ((Nat)×(Int)) (fun⟨i,k⟩=>(i≤p.acts.length)∧(-1≤k∧k < i)∧(uf b (p.acts.length - i) i k=Q)) (fun⟨i,k⟩=>[(20,.data (i64 i)),(6,.data (i64 k))]) (fun _=>[]) (fun _=>[]) (fun⟨i,k⟩=>p.acts.length - i) ⟨0, -1⟩ ?_ ?_
 ·exact⟨Nat.zero_le _,⟨by omega,by omega⟩,hQ⟩
 rintro⟨i,k⟩ ⟨hi,hk,he⟩
 by_cases hlt:i < p.acts.length
 ·obtain⟨a,x,y,m,g⟩:=dL hf hlt
  have hxy:=OT hu g.lo g.hi g.modes
  have ho:=VN g
  rw [show p.acts.length - i=(p.acts.length - (i+1))+1 by omega,Nn,uW g.lo] at he
  by_cases hk0:k < 0
  ·by_cases hc:(m.length:Int) > 1∨x < y
   ·rw [if_pos ⟨ho.2 hc,.inl hk0⟩] at he
    (repeat' ((conv=>whnf);first|with_reducible refine Idx.got g.modes rfl ?_|with_reducible refine Idx.got g.lo rfl ?_|with_reducible refine Idx.got g.hi rfl ?_|(exfalso;first|omega|(simp only [lm] at h;omega))|refine gA ?_|(refine gB ?_ ?_<;>intro h)|(refine gI ?_;intro x hx)|(refine gJ ?_;intro j x hj hx)|refine gV ?_|intro _))<;>try (conv=>whnf)
    all_goals
     refine nx ⟨i+1,i⟩ ?_
     exact⟨by omega,by omega,he⟩
   ·rw [if_neg (fun h=>hc (ho.1 h.1))] at he
    (repeat' ((conv=>whnf);first|with_reducible refine Idx.got g.modes rfl ?_|with_reducible refine Idx.got g.lo rfl ?_|with_reducible refine Idx.got g.hi rfl ?_|(exfalso;first|omega|(simp only [lm] at h;omega))|refine gA ?_|(refine gB ?_ ?_<;>intro h)|(refine gI ?_;intro x hx)|(refine gJ ?_;intro j x hj hx)|refine gV ?_|intro _))<;>try (conv=>whnf)
    all_goals
     refine nx ⟨i+1,k⟩ ?_
     exact⟨by omega,by omega,he⟩
  ·obtain⟨j,rfl⟩:∃j:Nat,k=j:=⟨k.toNat,by omega⟩
   obtain⟨a',x',y',m',g'⟩:=dL hf (show j < p.acts.length by omega)
   rw [Int.toNat_natCast,uW g'.lo] at he
   by_cases hc:((m.length:Int) > 1∨x < y)∧x < x'
   ·rw [if_pos ⟨ho.2 hc.1,.inr hc.2⟩] at he
    (repeat' ((conv=>whnf);first|with_reducible refine Idx.got g.modes rfl ?_|with_reducible refine Idx.got g.lo rfl ?_|with_reducible refine Idx.got g.hi rfl ?_|with_reducible refine Idx.got g'.lo rfl ?_|(exfalso;first|omega|(simp only [lm] at h;omega))|refine gA ?_|(refine gB ?_ ?_<;>intro h)|(refine gI ?_;intro x hx)|(refine gJ ?_;intro j x hj hx)|refine gV ?_|intro _))<;>try (conv=>whnf)
    all_goals
     refine nx ⟨i+1,i⟩ ?_
     exact⟨by omega,by omega,he⟩
   ·rw [if_neg (fun h=>hc ⟨ho.1 h.1,by have:=h.2;omega⟩)] at he
    (repeat' ((conv=>whnf);first|with_reducible refine Idx.got g.modes rfl ?_|with_reducible refine Idx.got g.lo rfl ?_|with_reducible refine Idx.got g.hi rfl ?_|with_reducible refine Idx.got g'.lo rfl ?_|(exfalso;first|omega|(simp only [lm] at h;omega))|refine gA ?_|(refine gB ?_ ?_<;>intro h)|(refine gI ?_;intro x hx)|(refine gJ ?_;intro j x hj hx)|refine gV ?_|intro _))<;>try (conv=>whnf)
    all_goals
     refine nx ⟨i+1,j⟩ ?_
     exact⟨by omega,by omega,he⟩
 ·rw [show p.acts.length - i=0 by omega,Nl] at he
  subst he
  by_cases hk0:k < 0
  ·rw [Mg,if_pos hk0] at hR
   subst hR
   (repeat' ((conv=>whnf);first|(exfalso;omega)|refine gA ?_|(refine gB ?_ ?_<;>intro h)|(refine gI ?_;intro x hx)|(refine gJ ?_;intro j x hj hx)|refine gV ?_|intro _))<;>try (conv=>whnf)
   exact fv
  ·obtain⟨j,rfl⟩:∃j:Nat,k=j:=⟨k.toNat,by omega⟩
   obtain⟨a,x,y,m,g⟩:=dL hf (show j < p.acts.length by omega)
   have hxy:=OT hu g.lo g.hi g.modes
   rw [Mg,if_neg hk0,Int.toNat_natCast,uW g.modes,uW g.lo,Oz g.act] at hR
   by_cases h2:(m.length:Int) < 2
   ·rw [if_pos h2] at hR
    subst hR
    (repeat' ((conv=>whnf);first|with_reducible refine Idx.got g.modes rfl ?_|with_reducible refine Idx.got g.lo rfl ?_|(exfalso;first|omega|(simp only [lm] at h;omega))|refine gA ?_|(refine gB ?_ ?_<;>intro h)|(refine gI ?_;intro x hx)|(refine gJ ?_;intro j x hj hx)|refine gV ?_|intro _))<;>try (conv=>whnf)
    all_goals exact fv
   ·rw [if_neg h2] at hR
    have hmw:m.length≤274877906944:=by have:=rP hwf.2.1.2.2.1.2 g.modes;simp only [AV.wf,lm] at this;exact this.1
    obtain⟨m0,hm0⟩:∃m0,m[0]? =some m0:=⟨m[0]'(by omega),by simp⟩
    have hhd:m.headD 0=m0:=by cases m with|nil=>simp at hm0|cons z zs=>simpa using hm0
    rw [hhd] at hR
    generalize hZ:ug a m m0=Z at hR
    (repeat' ((conv=>whnf);first|with_reducible refine Idx.got g.modes rfl ?_|with_reducible refine Idx.got hm0 rfl ?_|(exfalso;first|omega|(simp only [lm] at h;omega))|refine gA ?_|(refine gB ?_ ?_<;>intro h)|(refine gI ?_;intro x hx)|(refine gJ ?_;intro j x hj hx)|refine gV ?_|intro _))<;>try (conv=>whnf)
    refine aB [2,4,6,83,84] [2,4] [] ?_
    (conv=>whnf)
    refine aA.go ((Nat)×(Int)) (fun⟨r,q⟩=>(r≤m.length)∧(q∈m)∧(ug a (m.drop r) q=Z)) (fun⟨r,q⟩=>[(85,.data (i64 r)),(9,.data (i64 q))]) (fun _=>[]) (fun _=>[]) (fun⟨r,q⟩=>m.length - r) ⟨0,m0⟩ ?_ ?_
    ·exact⟨Nat.zero_le _,List.mem_of_getElem? hm0,hZ⟩
    rintro⟨r,q⟩ ⟨hr,hq,hz⟩
    by_cases hlr:r < m.length
    ·obtain⟨z,hz0⟩:∃z,m[r]? =some z:=⟨m[r]'hlr,by simp⟩
     obtain⟨jz,oz,ez,gz,dz⟩:=OU g (List.mem_of_getElem? hz0)
     obtain⟨jq,oq,eq,gq,dq⟩:=OU g hq
     rw [aF hz0,Np,dz,dq] at hz
     by_cases hc:oz.dur < oq.dur
     ·rw [if_pos hc] at hz
      (repeat' ((conv=>whnf);first|with_reducible refine Idx.got hz0 rfl ?_|with_reducible refine Idx.got g.act rfl ?_|with_reducible refine Idx.got gz ez ?_|with_reducible refine Idx.got gq eq ?_|(exfalso;omega)|refine gA ?_|(refine gB ?_ ?_<;>intro h)|(refine gI ?_;intro x hx)|(refine gJ ?_;intro j x hj hx)|refine gV ?_|intro _))<;>try (conv=>whnf)
      all_goals
       refine nx ⟨r+1,z⟩ ?_
       exact⟨by omega,List.mem_of_getElem? hz0,hz⟩
     ·rw [if_neg hc] at hz
      (repeat' ((conv=>whnf);first|with_reducible refine Idx.got hz0 rfl ?_|with_reducible refine Idx.got g.act rfl ?_|with_reducible refine Idx.got gz ez ?_|with_reducible refine Idx.got gq eq ?_|(exfalso;omega)|refine gA ?_|(refine gB ?_ ?_<;>intro h)|(refine gI ?_;intro x hx)|(refine gJ ?_;intro j x hj hx)|refine gV ?_|intro _))<;>try (conv=>whnf)
      all_goals
       refine nx ⟨r+1,q⟩ ?_
       exact⟨by omega,hq,hz⟩
    ·rw [bC (by omega),Rf] at hz
     subst hz
     subst hR
     (repeat' ((conv=>whnf);first|(exfalso;omega)|refine gA ?_|(refine gB ?_ ?_<;>intro h)|(refine gI ?_;intro x hx)|(refine gJ ?_;intro j x hj hx)|refine gV ?_|intro _))<;>try (conv=>whnf)
     exact fv
theorem rH (b:Dom):Con 58 [.d b.av] (Zq (single b)):=by
 refine con Tryz.func58 rfl rfl Tryz.call58 rfl fun hwf=>?_
 simp only [ARs.wf,AR.wf,AV.wf,AV.wfs,lm,lim] at hwf
 by_cases hl:b.lo.length=b.hi.length∧b.lo.length=b.modes.length
 rotate_left
 ·rw [show single b=none by rw [single,if_neg (fun h=>hl ⟨h.1,h.2.1⟩)]]
  (repeat' ((conv=>whnf);first|(exfalso;first|omega|(simp only [lm] at*;omega))|refine gA ?_|(refine gB ?_ ?_<;>intro h)|(refine gI ?_;intro x hx)|(refine gJ ?_;intro j x hj hx)|refine gP ?_|refine gV ?_|intro _))<;>try (conv=>whnf)
  all_goals exact fv
 obtain⟨hl1,hl2⟩:=hl
 generalize hR:single b=R
 (repeat' ((conv=>whnf);first|(exfalso;first|omega|(simp only [lm] at*;omega))|refine gA ?_|(refine gB ?_ ?_<;>intro h)|(refine gI ?_;intro x hx)|(refine gJ ?_;intro j x hj hx)|refine gP ?_|refine gV ?_|intro _))<;>try (conv=>whnf)
 refine aB [1,2,4,26,27] [1,2] [54,65] ?_
 (conv=>whnf)
 refine aA.go ((Nat)) (fun k=>(k≤b.lo.length)∧(∀i,i < k→WW b i=true)) (fun k=>[(28,.data (i64 k))]) (fun k=>[(4,[.own 54 0,.own 65 0])]) (fun k=>[(54,3,(b.lo.take k).map i64,1),(65,3,((b.modes.take k).map (·.headD 0)).map i64,1)]) (fun k=>b.lo.length - k) (0) ?_ ?_
 ·exact⟨Nat.zero_le _,fun i h=>absurd h (Nat.not_lt_zero i)⟩
 rintro k ⟨hk,hi⟩
 by_cases hlt:k < b.lo.length
 ·obtain⟨x,hx⟩:∃x,b.lo[k]? =some x:=⟨b.lo[k]'hlt,by simp⟩
  obtain⟨y,hy⟩:∃y,b.hi[k]? =some y:=⟨b.hi[k]'(by omega),by simp⟩
  obtain⟨m,hm⟩:∃m,b.modes[k]? =some m:=⟨b.modes[k]'(by omega),by simp⟩
  have ho:WW b k=(decide (x=y)&&decide ((m.length:Int)=1)):=by simp only [WW,hx,hy,hm]
  have hlk:(b.lo.take k).length≤k:=by rw [List.length_take];omega
  have hmk:(b.modes.take k).length≤k:=by rw [List.length_take];omega
  by_cases hc:x=y∧(m.length:Int)=1
  ·obtain⟨z,hz⟩:∃z,m[0]? =some z:=⟨m[0]'(by omega),by simp⟩
   have hzd:m.headD 0=z:=by cases m with|nil=>simp at hz|cons z1 zs=>simpa using hz
   have e1:(b.lo.take k).map i64++[i64 x]=(b.lo.take (k+1)).map i64:=(oO i64 hx).symm
   have e2:((b.modes.take k).map (·.headD 0)).map i64++[i64 z]=((b.modes.take (k+1)).map (·.headD 0)).map i64:=by rw [List.map_map,List.map_map,oO (i64 ∘ fun l:List Int=>l.headD 0) hm];simp only [Function.comp,hzd]
   (repeat' ((conv=>whnf);first|with_reducible refine Idx.got hx rfl ?_|with_reducible refine Idx.got hy rfl ?_|with_reducible refine Idx.got hm rfl ?_|with_reducible refine Idx.got hz rfl ?_|(exfalso;first|omega|(simp only [lm] at h;omega))|refine gA ?_|(refine gB ?_ ?_<;>intro h)|(refine gI ?_;intro x hx)|(refine gJ ?_;intro j x hj hx)|refine gP ?_|refine gV ?_|intro _))<;>try (conv=>whnf)
   all_goals
    refine nw ((k+1)) ?_ ?_
    ·(repeat' ((conv=>whnf)<;>(first|exact trivial|exact rfl|with_reducible refine And.intro ?_ ?_)))<;>((conv=>whnf)<;>(first|exact e1|exact e2))
    exact⟨by omega,lU hi (by rw [ho,hc.1];simp [hc.2])⟩
  ·have e:R=none:=by
    rw [← hR,single,if_neg]
    rintro⟨_,_,h⟩
    rw [lT k hlt (by rw [ho];simp only [Bool.and_eq_false_iff,decide_eq_false_iff_not];omega)] at h
    cases h
   subst e
   (repeat' ((conv=>whnf);first|with_reducible refine Idx.got hx rfl ?_|with_reducible refine Idx.got hy rfl ?_|with_reducible refine Idx.got hm rfl ?_|(exfalso;first|omega|(simp only [lm] at h;omega))|refine gA ?_|(refine gB ?_ ?_<;>intro h)|(refine gI ?_;intro x hx)|(refine gJ ?_;intro j x hj hx)|refine gP ?_|refine gV ?_|intro _))<;>try (conv=>whnf)
   all_goals exact fv
 ·obtain rfl:k=b.lo.length:=by omega
  have e:R=some ⟨b.lo,b.modes.map (·.headD 0)⟩:=by rw [← hR,single,if_pos ⟨hl1,hl2,bX.2 hi⟩]
  subst e
  rw [List.take_of_length_le (Nat.le_refl _),hl2,List.take_of_length_le (Nat.le_refl _)]
  (repeat' ((conv=>whnf);first|(exfalso;omega)|refine gA ?_|(refine gB ?_ ?_<;>intro h)|(refine gI ?_;intro x hx)|(refine gJ ?_;intro j x hj hx)|refine gP ?_|refine gV ?_|intro _))<;>try (conv=>whnf)
  exact fv
open Go.Proofs Go.RowKit
attribute [local irreducible] bF fM aD status litValue single choice jC dB
theorem Idx.lit {l:List AV} {i:Int} {k:Nat} {x:AV} {K:Nat→AV→Prop} (hx:l[k]? =some x) (h:i=k) (hk:K k x):Idx l i K:=⟨k,x,h,hx,hk⟩
structure Way where
 lines:List Lin
 visits:Int
 found:Option aJ
 stopped:Bool
def takeLog (g:Lg) (l:Lit):Option Lg:=if (dI g.proj l&& !decide ((g.decs.length:Int)=20))=true then some ⟨g.proj,restrict g.dom l,g.decs++[l],g.lines⟩ else none
theorem jK {g n:Lg} {l:Lit} (h:takeLog g l=some n):n.proj=g.proj∧n.decs=g.decs++[l]∧¬(g.decs.length:Int)=20∧n.lines=g.lines:=by
 unfold takeLog at h
 split at h
 ·rename_i hc
  cases h
  simp only [Bool.and_eq_true,Bool.not_eq_true',decide_eq_false_iff_not] at hc
  exact⟨rfl,rfl,hc.2,rfl⟩
 ·cases h
def dw (g:Lg) (ls:List Lin):Lg:=⟨g.proj,g.dom,g.decs,ls⟩
def mJ (h:Lg):Option aJ:=match single h.dom with
 |none=>none
 |some s=>if bg h.proj s=true then some s else none
def iJ (h:Lg) (ls:List Lin) (v:Int):Way:=if aD h.proj ls (bD h)=0 then⟨ls++[bD h],v,none,false⟩ else⟨ls,v,none,true⟩
def dH (h:Lg) (rec:Int→Lg→Way) (x:Lit) (ls:List Lin) (v:Int):Way:=match takeLog (dw h ls) x with
 |none=>⟨ls,v,none,true⟩
 |some n=>rec v n
def gu (h:Lg) (rec:Int→Lg→Way):List Lit→List Lin→Int→Way
 |[],ls,v=>iJ h ls v
 |x::xs,ls,v=>match dH h rec x ls v with
  |⟨ls',v',none,false⟩=>gu h rec xs ls' v'
  |w=>w
def eB (h:Lg) (rec:Int→Lg→Way) (v:Int):Way:=match jC h with
 |some k=>⟨k.lines,v,none,false⟩
 |none=>match mJ h with
  |some s=>⟨h.lines,v,some s,false⟩
  |none=>match choice h.proj h.dom with
   |none=>⟨h.lines,v,none,true⟩
   |some l=>gu h rec [l,negate l] h.lines v
def vis (most:Int):Nat→Int→Lg→Way
 |0,v,g=>⟨g.lines,v,none,true⟩
 |f+1,v,g=>if v=most then⟨g.lines,v,none,true⟩ else eB (dB 40 0 g).1 (fun v g=>vis most f v g) (v+1)
theorem wK (most:Int) (f:Nat) (g:Lg):vis most (f+1) most g=⟨g.lines,most,none,true⟩:=by rw [vis,if_pos rfl]
theorem pq (most:Int) (f:Nat) (v:Int) (g:Lg) (h:v≠most):vis most (f+1) v g=eB (dB 40 0 g).1 (fun v g=>vis most f v g) (v+1):=by rw [vis,if_neg h]
theorem iK {h:Lg} {rec:Int→Lg→Way} {x:Lit} {ls:List Lin} {v:Int} (e:takeLog (dw h ls) x=none):dH h rec x ls v=⟨ls,v,none,true⟩:=by simp only [dH,e]
theorem iL {h n:Lg} {rec:Int→Lg→Way} {x:Lit} {ls:List Lin} {v:Int} (e:takeLog (dw h ls) x=some n):dH h rec x ls v=rec v n:=by simp only [dH,e]
theorem Ag (h:Lg) (rec:Int→Lg→Way) (ls:List Lin) (v:Int):gu h rec [] ls v=iJ h ls v:=rfl
theorem iC {h:Lg} {rec:Int→Lg→Way} {x:Lit} {xs:List Lit} {ls ls':List Lin} {v v':Int} (e:dH h rec x ls v=⟨ls',v',none,false⟩):gu h rec (x::xs) ls v=gu h rec xs ls' v':=by simp only [gu,e]
theorem bQ {h:Lg} {rec:Int→Lg→Way} {x:Lit} {xs:List Lit} {ls:List Lin} {v:Int} {w:Way} (e:dH h rec x ls v=w) (hw:w.found.isSome=true∨w.stopped=true):gu h rec (x::xs) ls v=w:=by
 simp only [gu,e]
 rcases w with⟨a,b,_|c,_|_⟩
 ·simp at hw
 ·rfl
 ·rfl
 ·rfl
theorem Rh (h:Lg) (ls:List Lin) (v most:Int) (hv:v≤most):v≤(iJ h ls v).visits∧(iJ h ls v).visits≤most:=by
 unfold iJ;split<;>exact⟨Int.le_refl _,hv⟩
theorem qp {h:Lg} {rec:Int→Lg→Way} {most:Int} (hr:∀v g,v≤most→v≤(rec v g).visits∧(rec v g).visits≤most):∀(xs:List Lit) (ls:List Lin) (v:Int),v≤most→v≤(gu h rec xs ls v).visits∧(gu h rec xs ls v).visits≤most
 |[],ls,v,hv=>Rh h ls v most hv
 |x::xs,ls,v,hv=>by
  have hs:v≤(dH h rec x ls v).visits∧(dH h rec x ls v).visits≤most:=by
   unfold dH
   split
   ·exact⟨Int.le_refl _,hv⟩
   ·exact hr _ _ hv
  rcases hw:dH h rec x ls v with⟨a,b,_|c,_|_⟩
  ·rw [hw] at hs
   rw [iC hw]
   have:=qp (h:=h) hr xs a b hs.2
   exact⟨by have:=hs.1;dsimp only at this;omega,this.2⟩
  all_goals
   rw [bQ hw (by simp)]
   rw [hw] at hs;exact hs
theorem kP (most:Int):∀(f:Nat) (v:Int) (g:Lg),v≤most→v≤(vis most f v g).visits∧(vis most f v g).visits≤most
 |0,v,g,hv=>⟨Int.le_refl _,hv⟩
 |f+1,v,g,hv=>by
  by_cases h:v=most
  ·subst h;rw [wK];exact⟨Int.le_refl _,Int.le_refl _⟩
  ·rw [pq _ _ _ _ h]
   have hv1:v+1≤most:=by omega
   suffices hh:v+1≤(eB (dB 40 0 g).1 (fun v g=>vis most f v g) (v+1)).visits∧(eB (dB 40 0 g).1 (fun v g=>vis most f v g) (v+1)).visits≤most from ⟨by omega,hh.2⟩
   unfold eB
   split
   ·exact⟨Int.le_refl _,hv1⟩
   ·split
    ·exact⟨Int.le_refl _,hv1⟩
    ·split
     ·exact⟨Int.le_refl _,hv1⟩
     ·exact qp (fun v g hv=>kP most f v g hv) _ _ _ hv1
theorem FD {h k:Lg} {rec:Int→Lg→Way} {v:Int} (e:jC h=some k):eB h rec v=⟨k.lines,v,none,false⟩:=by unfold eB;rw [e]
theorem FE {h:Lg} {s:aJ} {rec:Int→Lg→Way} {v:Int} (e:jC h=none) (e2:mJ h=some s):eB h rec v=⟨h.lines,v,some s,false⟩:=by unfold eB;rw [e];dsimp only;rw [e2]
theorem FH {h:Lg} {rec:Int→Lg→Way} {v:Int} (e:jC h=none) (e2:mJ h=none):eB h rec v=(match choice h.proj h.dom with|none=>⟨h.lines,v,none,true⟩|some l=>gu h rec [l,negate l] h.lines v):=by unfold eB;rw [e];dsimp only;rw [e2]
end Go.Proofs.YtmenphiahgkjkaaGreatDoor.Abs
namespace Go.Proofs.YtmenphiahgkjkaaGreatDoor.Abs
open Go.Proofs Go.RowKit
attribute [local irreducible] bF fM aD status litValue single choice jC dB
def Bh (most v:Int) (b:Lg):List SV:=[.data (i64 most),.data (i64 v),.data (i64 b.proj.dead),.data (.sl (b.proj.acts.map aC.av)),.data (.sl (b.proj.links.map Link.av)),.data (.sl (b.proj.bB.map dR.av)),.data (ints b.proj.aW),.data (ints b.dom.lo),.data (ints b.dom.hi),.data (.sl (b.dom.modes.map ints)),.data (lits b.decs),.data (.sl (b.lines.map Lin.av)),.data (.bool false),.data (.bool false),.ah,.ah]
def lgC (b:Lg) (ls:List Lin):List SV:=[.data (i64 b.proj.dead),.data (.sl (b.proj.acts.map aC.av)),.data (.sl (b.proj.links.map Link.av)),.data (.sl (b.proj.bB.map dR.av)),.data (ints b.proj.aW),.data (ints b.dom.lo),.data (ints b.dom.hi),.data (.sl (b.dom.modes.map ints)),.data (lits b.decs),.data (.sl (ls.map Lin.av))]
def Zr (most:Int):List SV:=[.data (i64 most),.data (i64 0),.data (i64 0),.ah,.ah,.ah,.ah,.ah,.ah,.ah,.ah,.ah,.data (.bool false),.data (.bool false),.ah,.ah]
def aaQ (most v:Int) (b:Lg) (found stopped:Bool) (s m:RV):List RV:=[.d (i64 most),.d (i64 v),.d (i64 b.proj.dead),.d (.sl (b.proj.acts.map aC.av)),.d (.sl (b.proj.links.map Link.av)),.d (.sl (b.proj.bB.map dR.av)),.d (ints b.proj.aW),.d (ints b.dom.lo),.d (ints b.dom.hi),.d (.sl (b.dom.modes.map ints)),.d (lits b.decs),.d (.sl (b.lines.map Lin.av)),.d (.bool found),.d (.bool stopped),s,m]
def wL (most:Int) (b:Lg):Way→RV
 |⟨ls,v,none,st⟩=>.eff 0 (.d (.sl (ls.map Lin.av))) (aaQ most v b false st .ah .ah)
 |⟨ls,v,some s,st⟩=>.eff 0 (.d (.sl (ls.map Lin.av))) (aaQ most v b true st (.lin 3 (s.starts.map i64)) (.lin 3 (s.modes.map i64)))
theorem WX {most:Int} {n:Nat} {b:Lg} {W:Way} {args:List AR} (h:(Nat.ble args.length n&&RY args)=true):(Nat.ble args.length n&&Xx args (wL most b W))=true:=by
 have e:(wL most b W).yD=true:=by rcases W with⟨_,_,_|_,_⟩<;>rfl
 have e2:(wL most b W).VY=false:=by rcases W with⟨_,_,_|_,_⟩<;>rfl
 simp only [Bool.and_eq_true] at h
 simp only [Xx,e,e2,h.1,h.2,Bool.and_true,Bool.or_true,Bool.not_false]
theorem iR (most v:Int) (b:Lg) (ls:List Lin):Con 55 [.bx (Bh most v b),.d (.sl (ls.map Lin.av))] (wL most b ⟨ls,v,none,true⟩):=by
 refine con Tryz.func55 rfl rfl Tryz.call55 rfl fun hwf=>?_
 (repeat' ((conv=>whnf);first|refine gA ?_|(refine gB ?_ ?_<;>intro h)|intro _))<;>try (conv=>whnf)
 exact fv
theorem uX (g:Lg) (l:Lit) (hp:g.proj.fine) (hd:g.decs.length≤20):Con 61 [.d g.av,.d l.av] (zU (takeLog g l)):=by
 refine con Tryz.func61 rfl rfl Tryz.call61 rfl fun hwf=>?_
 simp only [ARs.wf,AR.wf,AV.wf,AV.wfs,lm,lim] at hwf
 have hT:=oJ g.proj l hp
 by_cases hk:(dI g.proj l&& !decide ((g.decs.length:Int)=20))=true
 ·rw [takeLog,if_pos hk,nN]
  simp only [Bool.and_eq_true,Bool.not_eq_true',decide_eq_false_iff_not] at hk
  rw [hk.1] at hT
  have h3:=hk.2
  (repeat' ((conv=>whnf);first|with_reducible refine Br.no (decide_eq_false (by simp only [lm];omega)) ?_|refine gA ?_|(refine gB ?_ ?_<;>intro h)|refine gP ?_|refine gC (hT) ?_|refine gC (vN g) ?_|refine gC (fu g.dom l) ?_|intro _))<;>try (conv=>whnf)
  (repeat' ((conv=>whnf)<;>(first|exact trivial|exact VC.nod (by kernel_rfl)|refine VC.mk (by first|with_reducible rfl|(simp;done)|rfl) ?_)))
 ·rw [takeLog,if_neg hk]
  (repeat' ((conv=>whnf);first|refine gA ?_|(refine gB ?_ ?_<;>intro h)|refine gP ?_|refine gC (hT) ?_|intro _))<;>try (conv=>whnf)
  all_goals first
   |(exfalso;simp_all;done)
   |exact fv
theorem Ah:∀(f n:Nat) (g:Lg),(dB f n g).1.decs=g.decs
 |0,_,_=>by rw [zW]
 |f+1,n,g=>by
  rw [nX]
  cases h:oQ g with
  |none=>rfl
  |some x=>
   dsimp only
   rw [Ah f]
   rw [xW] at h
   split at h
   ·cases h
   ·unfold oP at h
    split at h
    ·cases h;rfl
    ·cases h
theorem FI {h:Lg} {s:aJ} (e:mJ h=some s):single h.dom=some s∧bg h.proj s=true:=by
 unfold mJ at e
 split at e
 ·cases e
 ·rename_i x hx
  split at e
  ·rename_i hk;cases e;exact⟨hx,hk⟩
  ·cases e
theorem IG {h:Lg} {s:aJ} (e:mJ h=none) (hs:single h.dom=some s):bg h.proj s=false:=by
 unfold mJ at e
 rw [hs] at e
 dsimp only at e
 split at e
 ·cases e
 ·rename_i hk
  cases hh:bg h.proj s with
  |false=>rfl
  |true=>exact absurd hh hk
theorem Jk (v:Int) (b:Lg) (g:Lg):Con 20 [.bx (Bh v v b),.d g.av] (wL v b ⟨g.lines,v,none,true⟩):=by
 refine con Tryz.func20 rfl rfl Tryz.call20 rfl fun hwf=>?_
 have hS:=iR v v b g.lines
 rw [wL] at hS ⊢
 (repeat' ((conv=>whnf);first|with_reducible refine Br.yes (decide_eq_true rfl) ?_|refine gA ?_|(refine gB ?_ ?_<;>intro h)|(refine gI ?_;intro x hx)|(refine gJ ?_;intro j x hj hx)|refine gP ?_|refine gV ?_|refine gC (hS) ?_|intro _))<;>try (conv=>whnf)
 exact fv
end Go.Proofs.YtmenphiahgkjkaaGreatDoor.Abs
namespace Go.Proofs.YtmenphiahgkjkaaGreatDoor.Abs
open Go.Proofs Go.RowKit
attribute [local irreducible] bF fM aD status litValue single choice jC dB
end Go.Proofs.YtmenphiahgkjkaaGreatDoor.Abs
namespace Go.Proofs.YtmenphiahgkjkaaGreatDoor.Abs
open Go.Proofs Go.RowKit
attribute [local irreducible] bF fM aD status litValue single choice jC dB
theorem Nq (most:Int) (hm:most≤60) (b:Lg) (f:Nat) (ih:∀(b:Lg) (v:Int) (g:Lg),g.proj.fine→g.decs.length≤20→most < v+f→1≤v→v≤most→Con 20 [.bx (Bh most v b),.d g.av] (wL most b (vis most f v g))) (v:Int) (g:Lg) (hp:g.proj.fine) (hdl:g.decs.length≤20) (hf:most < v+(f+1)) (h1:1≤v) (h0:v≠most) (hv:v≤most):
  Con 20 [.bx (Bh most v b),.d g.av] (wL most b (vis most (f+1) v g)):=by
 rw [pq _ _ _ _ h0]
 have hP:=zX g 40 hp (by omega)
 have hpr:=zY 40 0 g
 have hde:=Ah 40 0 g
 rw [abM] at hP
 generalize dB 40 0 g=R0 at hP hpr hde ⊢
 obtain⟨lg,n0⟩:=R0
 dsimp only at hP hpr hde ⊢
 have hph:lg.proj.fine:=hpr ▸ hp
 have hdh:lg.decs.length≤20:=hde ▸ hdl
 have hS:=Cg lg hph
 rw [VD] at hS
 generalize hW:eB lg (fun v g=>vis most f v g) (v+1)=W
 refine con Tryz.func20 rfl rfl Tryz.call20 (WX rfl) fun hwf=>?_
 simp only [ARs.wf,AR.wf,UF,Bh,Zr,AV.wf,AV.wfs,List.length_map,lim] at hwf
 cases hst:jC lg with
 |some k=>
  rw [hst] at hS
  dsimp only [Option.getD,Option.isSome] at hS
  obtain rfl:W=⟨k.lines,v+1,none,false⟩:=by rw [← hW];exact FD hst
  (repeat' ((conv=>whnf);first|(exfalso;omega)|refine gA ?_|(refine gB ?_ ?_<;>intro h)|(refine gI ?_;intro x hx)|(refine gJ ?_;intro j x hj hx)|refine gP ?_|refine gV ?_|refine gC (hP) ?_|refine gC (hS) ?_|intro _))<;>try (conv=>whnf)
  exact fv
 |none=>
 rw [hst] at hS
 dsimp only [Option.getD,Option.isSome] at hS
 have hG:=rH lg.dom
 rw [Zq] at hG
 have hC:=rG lg.proj lg.dom hph
 rw [Zp] at hC
 have keep:mJ lg=none→(match choice lg.proj lg.dom with|none=>(⟨lg.lines,v+1,none,true⟩:Way)|some l=>gu lg (fun v g=>vis most f v g) [l,negate l] lg.lines (v+1))=W:=fun e=>(FH hst e).symm.trans hW
 cases hgo:mJ lg with
 |some s=>
  obtain⟨hs1,hs2⟩:=FI hgo
  rw [hs1] at hG
  dsimp only [Option.getD,Option.isSome] at hG
  have hK:=jm lg.proj s hph
  rw [hs2] at hK
  obtain rfl:W=⟨lg.lines,v+1,some s,false⟩:=by rw [← hW];exact FE hst hgo
  (repeat' ((conv=>whnf);first|(exfalso;omega)|refine gA ?_|(refine gB ?_ ?_<;>intro h)|(refine gI ?_;intro x hx)|(refine gJ ?_;intro j x hj hx)|refine gP ?_|refine gV ?_|refine gC (hP) ?_|refine gC (hS) ?_|refine gC (hG) ?_|refine gC (hK) ?_|intro _))<;>try (conv=>whnf)
  exact fv
 |none=>
 have keep:=keep hgo
 have Uh:∀s,single lg.dom=some s→Con 11 [.d lg.proj.av,.d s.av] (.d (.bool false)):=fun s hs=>by
  have:=jm lg.proj s hph
  rwa [IG hgo hs] at this
 cases hch:choice lg.proj lg.dom with
 |none=>
  rw [hch] at hC keep
  dsimp only [Option.getD,Option.isSome] at hC keep
  subst keep
  cases hs:single lg.dom with
  |none=>
   rw [hs] at hG
   dsimp only [Option.getD,Option.isSome] at hG
   (repeat' ((conv=>whnf);first|(exfalso;omega)|refine gA ?_|(refine gB ?_ ?_<;>intro h)|(refine gI ?_;intro x hx)|(refine gJ ?_;intro j x hj hx)|refine gP ?_|refine gV ?_|refine gC (hP) ?_|refine gC (hS) ?_|refine gC (hG) ?_|refine gC (hC) ?_|refine gC (iR most (v+1) b lg.lines) ?_|intro _))<;>try (conv=>whnf)
   exact fv
  |some s=>
   rw [hs] at hG
   dsimp only [Option.getD,Option.isSome] at hG
   (repeat' ((conv=>whnf);first|(exfalso;omega)|refine gA ?_|(refine gB ?_ ?_<;>intro h)|(refine gI ?_;intro x hx)|(refine gJ ?_;intro j x hj hx)|refine gP ?_|refine gV ?_|refine gC (hP) ?_|refine gC (hS) ?_|refine gC (hG) ?_|refine gC (hC) ?_|refine gC (Uh s hs) ?_|refine gC (iR most (v+1) b lg.lines) ?_|intro _))<;>try (conv=>whnf)
   exact fv
 |some l=>
 rw [hch] at hC keep
 dsimp only [Option.getD,Option.isSome] at hC keep
 have fin:True:=trivial
 cases hs:single lg.dom with
 |none=>
  rw [hs] at hG
  dsimp only [Option.getD,Option.isSome] at hG
  (repeat' ((conv=>whnf);first|(exfalso;omega)|refine gA ?_|(refine gB ?_ ?_<;>intro h)|(refine gI ?_;intro x hx)|(refine gJ ?_;intro j x hj hx)|refine gP ?_|refine gV ?_|refine gC (hP) ?_|refine gC (hS) ?_|refine gC (hG) ?_|refine gC (hC) ?_|refine gC (gF l) ?_|intro _))<;>try (conv=>whnf)
  refine aB [0,3,100,101] [] [] ?_
  (conv=>whnf)
  refine aA.go ((Nat)×(List Lin)×(Int)) (fun⟨k,ls,w⟩=>(k≤2)∧(gu lg (fun v g=>vis most f v g) ([l,negate l].drop k) ls w=W)∧(v+1≤w∧w≤most)) (fun⟨k,ls,w⟩=>[(102,.data (i64 k))]) (fun⟨k,ls,w⟩=>[(3,lgC lg ls),(1000000,Bh most w b)]) (fun _=>[]) (fun⟨k,ls,w⟩=>2 - k) ⟨0,lg.lines,v+1⟩ ?_ ?_
  ·exact⟨by omega,keep,by omega,by omega⟩
  rintro⟨k,ls,w⟩ ⟨hk,he,hw⟩
  by_cases hlt:k < 2
  ·obtain⟨x,hx,hd⟩:∃x,[l.av,(negate l).av][k]? =some x.av∧[l,negate l].drop k=x::[l,negate l].drop (k+1):=by
    rcases k with _|_|k
    ·exact⟨l,rfl,rfl⟩
    ·exact⟨negate l,rfl,rfl⟩
    ·omega
   rw [hd] at he
   have hT:=uX (dw lg ls) x hph hdh
   have hI:([l.av,(negate l).av]:List AV)[k]? =some x.av:=hx
   cases ht:takeLog (dw lg ls) x with
   |none=>
    rw [ht,zU] at hT
    dsimp only [Option.getD,Option.isSome] at hT
    rw [bQ (iK ht) (.inr rfl)] at he
    subst he
    (repeat' ((conv=>whnf);first|(exfalso;first|omega|(simp only [List.length_cons,List.length_nil] at h;omega))|refine Idx.lit hI rfl ?_|refine gA ?_|(refine gB ?_ ?_<;>intro h)|(refine gI ?_;intro x hx)|(refine gJ ?_;intro j x hj hx)|refine gP ?_|refine gV ?_|refine gC (hT) ?_|refine gC (iR most w b ls) ?_|intro _))<;>try (conv=>whnf)
    exact fv
   |some n=>
    rw [ht,nN] at hT
    obtain⟨q1,q2,q3,q4⟩:=jK ht
    have hr:=ih b w n (by rw [q1];exact hph) (by rw [q2,List.length_append];simp only [dw,List.length_cons,List.length_nil] at q3 ⊢;omega) (by omega) (by omega) hw.2
    have hb:=kP most f w n hw.2
    have hsw:dH lg (fun v g=>vis most f v g) x ls w=vis most f w n:=iL ht
    rcases Mh:vis most f w n with⟨l1,w1,_|s1,_|_⟩
    ·rw [Mh] at hr hb hsw
     rw [iC hsw] at he
     dsimp only at hb
     rw [wL] at hr
     (repeat' ((conv=>whnf);first|(exfalso;first|omega|(simp only [List.length_cons,List.length_nil] at h;omega))|refine Idx.lit hI rfl ?_|refine gA ?_|(refine gB ?_ ?_<;>intro h)|(refine gI ?_;intro x hx)|(refine gJ ?_;intro j x hj hx)|refine gP ?_|refine gV ?_|refine gC (hT) ?_|refine gC (hr) ?_|intro _))<;>try (conv=>whnf)
     refine nx ⟨k+1,l1,w1⟩ ?_
     exact⟨by omega,he,by omega,by omega⟩
    all_goals
     rw [Mh] at hr hsw
     rw [bQ hsw (by simp)] at he
     subst he
     rw [wL] at hr
     (repeat' ((conv=>whnf);first|(exfalso;first|omega|(simp only [List.length_cons,List.length_nil] at h;omega))|refine Idx.lit hI rfl ?_|refine gA ?_|(refine gB ?_ ?_<;>intro h)|(refine gI ?_;intro x hx)|(refine gJ ?_;intro j x hj hx)|refine gP ?_|refine gV ?_|refine gC (hT) ?_|refine gC (hr) ?_|intro _))<;>try (conv=>whnf)
     exact fv
  ·obtain rfl:k=2:=by omega
   have he:iJ lg ls w=W:=he
   (repeat' ((conv=>whnf);first|(exfalso;first|omega|(simp only [List.length_cons,List.length_nil] at h;omega))|refine gA ?_|(refine gB ?_ ?_<;>intro h)|(refine gI ?_;intro x hx)|(refine gJ ?_;intro j x hj hx)|refine gP ?_|refine gV ?_|intro _))<;>try (conv=>whnf)
   refine aB [0,3,137,138] [3] [135] ?_
   (conv=>whnf)
   refine aA.go ((Nat)×(List Lit)) (fun⟨j,o⟩=>(j≤lg.decs.length)∧(o=(lg.decs.take j).map negate)) (fun⟨j,o⟩=>[(139,.data (i64 j)),(15,.own 135 0)]) (fun⟨j,o⟩=>[(1000000,Bh most w b)]) (fun⟨j,o⟩=>[(135,79,o.map Lit.av,0)]) (fun⟨j,o⟩=>lg.decs.length - j) ⟨0,[]⟩ ?_ ?_
   ·exact⟨Nat.zero_le _,rfl⟩
   rintro⟨j,o⟩ ⟨hj,ho⟩
   by_cases hlt2:j < lg.decs.length
   ·obtain⟨x,hx⟩:∃x,lg.decs[j]? =some x:=⟨lg.decs[j]'hlt2,by simp⟩
    have hol:o.length≤j:=by rw [ho];simp;omega
    (repeat' ((conv=>whnf);first|with_reducible refine Idx.got hx rfl ?_|(exfalso;omega)|refine gA ?_|(refine gB ?_ ?_<;>intro h)|(refine gI ?_;intro x hx)|(refine gJ ?_;intro j x hj hx)|refine gP ?_|refine gV ?_|refine gC (gF x) ?_|intro _))<;>try (conv=>whnf)
    refine nw ⟨j+1,o++[negate x]⟩ ?_ ?_
    ·(repeat' ((conv=>whnf)<;>(first|exact trivial|exact rfl|with_reducible refine And.intro ?_ ?_)))<;>((conv=>whnf)<;>(simp))
    exact⟨by omega,by rw [ho, ← oO negate hx]⟩
   obtain rfl:o=lg.decs.map negate:=by rw [ho,List.take_of_length_le (by omega)]
   have hN:=iW (lg.decs.map negate)
   have hK2:=gY lg.proj ls (bD lg) hph
   by_cases hck:aD lg.proj ls (bD lg)=0
   ·rw [iJ,if_pos hck] at he
    subst he
    rw [hck] at hK2
    have Zk:=pV hck
    have hLA:=fH ls (upTo ls.length) (fun i hi=>qI hi)
    rw [nW] at hLA
    (repeat' ((conv=>whnf);first|(exfalso;omega)|refine gA ?_|(refine gB ?_ ?_<;>intro h)|(refine gI ?_;intro x hx)|(refine gJ ?_;intro j x hj hx)|refine gP ?_|refine gV ?_|refine gC (hN) ?_|refine gC (hK2) ?_|refine gC (lD ls) ?_|refine gC (hLA) ?_|intro _))<;>try (conv=>whnf)
    (repeat' ((conv=>whnf)<;>(first|exact trivial|exact VC.nod (by kernel_rfl)|refine VC.mk (by first|with_reducible rfl|(exact congrArg AV.sl (List.map_append (l₁:=ls) (l₂:=[bD lg]) (f:=Lin.av)).symm;done)|rfl) ?_)))
   ·rw [iJ,if_neg hck] at he
    subst he
    (repeat' ((conv=>whnf);first|(exfalso;omega)|refine gA ?_|(refine gB ?_ ?_<;>intro h)|(refine gI ?_;intro x hx)|(refine gJ ?_;intro j x hj hx)|refine gP ?_|refine gV ?_|refine gC (hN) ?_|refine gC (hK2) ?_|refine gC (iR most w b ls) ?_|intro _))<;>try (conv=>whnf)
    exact fv
 |some s=>
  rw [hs] at hG
  dsimp only [Option.getD,Option.isSome] at hG
  (repeat' ((conv=>whnf);first|(exfalso;omega)|refine gA ?_|(refine gB ?_ ?_<;>intro h)|(refine gI ?_;intro x hx)|(refine gJ ?_;intro j x hj hx)|refine gP ?_|refine gV ?_|refine gC (hP) ?_|refine gC (hS) ?_|refine gC (hG) ?_|refine gC (hC) ?_|refine gC (Uh s hs) ?_|refine gC (gF l) ?_|intro _))<;>try (conv=>whnf)
  refine aB [0,3,100,101] [] [] ?_
  (conv=>whnf)
  refine aA.go ((Nat)×(List Lin)×(Int)) (fun⟨k,ls,w⟩=>(k≤2)∧(gu lg (fun v g=>vis most f v g) ([l,negate l].drop k) ls w=W)∧(v+1≤w∧w≤most)) (fun⟨k,ls,w⟩=>[(102,.data (i64 k))]) (fun⟨k,ls,w⟩=>[(3,lgC lg ls),(1000000,Bh most w b)]) (fun _=>[]) (fun⟨k,ls,w⟩=>2 - k) ⟨0,lg.lines,v+1⟩ ?_ ?_
  ·exact⟨by omega,keep,by omega,by omega⟩
  rintro⟨k,ls,w⟩ ⟨hk,he,hw⟩
  by_cases hlt:k < 2
  ·obtain⟨x,hx,hd⟩:∃x,[l.av,(negate l).av][k]? =some x.av∧[l,negate l].drop k=x::[l,negate l].drop (k+1):=by
    rcases k with _|_|k
    ·exact⟨l,rfl,rfl⟩
    ·exact⟨negate l,rfl,rfl⟩
    ·omega
   rw [hd] at he
   have hT:=uX (dw lg ls) x hph hdh
   have hI:([l.av,(negate l).av]:List AV)[k]? =some x.av:=hx
   cases ht:takeLog (dw lg ls) x with
   |none=>
    rw [ht,zU] at hT
    dsimp only [Option.getD,Option.isSome] at hT
    rw [bQ (iK ht) (.inr rfl)] at he
    subst he
    (repeat' ((conv=>whnf);first|(exfalso;first|omega|(simp only [List.length_cons,List.length_nil] at h;omega))|refine Idx.lit hI rfl ?_|refine gA ?_|(refine gB ?_ ?_<;>intro h)|(refine gI ?_;intro x hx)|(refine gJ ?_;intro j x hj hx)|refine gP ?_|refine gV ?_|refine gC (hT) ?_|refine gC (iR most w b ls) ?_|intro _))<;>try (conv=>whnf)
    exact fv
   |some n=>
    rw [ht,nN] at hT
    obtain⟨q1,q2,q3,q4⟩:=jK ht
    have hr:=ih b w n (by rw [q1];exact hph) (by rw [q2,List.length_append];simp only [dw,List.length_cons,List.length_nil] at q3 ⊢;omega) (by omega) (by omega) hw.2
    have hb:=kP most f w n hw.2
    have hsw:dH lg (fun v g=>vis most f v g) x ls w=vis most f w n:=iL ht
    rcases Mh:vis most f w n with⟨l1,w1,_|s1,_|_⟩
    ·rw [Mh] at hr hb hsw
     rw [iC hsw] at he
     dsimp only at hb
     rw [wL] at hr
     (repeat' ((conv=>whnf);first|(exfalso;first|omega|(simp only [List.length_cons,List.length_nil] at h;omega))|refine Idx.lit hI rfl ?_|refine gA ?_|(refine gB ?_ ?_<;>intro h)|(refine gI ?_;intro x hx)|(refine gJ ?_;intro j x hj hx)|refine gP ?_|refine gV ?_|refine gC (hT) ?_|refine gC (hr) ?_|intro _))<;>try (conv=>whnf)
     refine nx ⟨k+1,l1,w1⟩ ?_
     exact⟨by omega,he,by omega,by omega⟩
    all_goals
     rw [Mh] at hr hsw
     rw [bQ hsw (by simp)] at he
     subst he
     rw [wL] at hr
     (repeat' ((conv=>whnf);first|(exfalso;first|omega|(simp only [List.length_cons,List.length_nil] at h;omega))|refine Idx.lit hI rfl ?_|refine gA ?_|(refine gB ?_ ?_<;>intro h)|(refine gI ?_;intro x hx)|(refine gJ ?_;intro j x hj hx)|refine gP ?_|refine gV ?_|refine gC (hT) ?_|refine gC (hr) ?_|intro _))<;>try (conv=>whnf)
     exact fv
  ·obtain rfl:k=2:=by omega
   have he:iJ lg ls w=W:=he
   (repeat' ((conv=>whnf);first|(exfalso;first|omega|(simp only [List.length_cons,List.length_nil] at h;omega))|refine gA ?_|(refine gB ?_ ?_<;>intro h)|(refine gI ?_;intro x hx)|(refine gJ ?_;intro j x hj hx)|refine gP ?_|refine gV ?_|intro _))<;>try (conv=>whnf)
   refine aB [0,3,137,138] [3] [135] ?_
   (conv=>whnf)
   refine aA.go ((Nat)×(List Lit)) (fun⟨j,o⟩=>(j≤lg.decs.length)∧(o=(lg.decs.take j).map negate)) (fun⟨j,o⟩=>[(139,.data (i64 j)),(15,.own 135 0)]) (fun⟨j,o⟩=>[(1000000,Bh most w b)]) (fun⟨j,o⟩=>[(135,79,o.map Lit.av,0)]) (fun⟨j,o⟩=>lg.decs.length - j) ⟨0,[]⟩ ?_ ?_
   ·exact⟨Nat.zero_le _,rfl⟩
   rintro⟨j,o⟩ ⟨hj,ho⟩
   by_cases hlt2:j < lg.decs.length
   ·obtain⟨x,hx⟩:∃x,lg.decs[j]? =some x:=⟨lg.decs[j]'hlt2,by simp⟩
    have hol:o.length≤j:=by rw [ho];simp;omega
    (repeat' ((conv=>whnf);first|with_reducible refine Idx.got hx rfl ?_|(exfalso;omega)|refine gA ?_|(refine gB ?_ ?_<;>intro h)|(refine gI ?_;intro x hx)|(refine gJ ?_;intro j x hj hx)|refine gP ?_|refine gV ?_|refine gC (gF x) ?_|intro _))<;>try (conv=>whnf)
    refine nw ⟨j+1,o++[negate x]⟩ ?_ ?_
    ·(repeat' ((conv=>whnf)<;>(first|exact trivial|exact rfl|with_reducible refine And.intro ?_ ?_)))<;>((conv=>whnf)<;>(simp))
    exact⟨by omega,by rw [ho, ← oO negate hx]⟩
   obtain rfl:o=lg.decs.map negate:=by rw [ho,List.take_of_length_le (by omega)]
   have hN:=iW (lg.decs.map negate)
   have hK2:=gY lg.proj ls (bD lg) hph
   by_cases hck:aD lg.proj ls (bD lg)=0
   ·rw [iJ,if_pos hck] at he
    subst he
    rw [hck] at hK2
    have Zk:=pV hck
    have hLA:=fH ls (upTo ls.length) (fun i hi=>qI hi)
    rw [nW] at hLA
    (repeat' ((conv=>whnf);first|(exfalso;omega)|refine gA ?_|(refine gB ?_ ?_<;>intro h)|(refine gI ?_;intro x hx)|(refine gJ ?_;intro j x hj hx)|refine gP ?_|refine gV ?_|refine gC (hN) ?_|refine gC (hK2) ?_|refine gC (lD ls) ?_|refine gC (hLA) ?_|intro _))<;>try (conv=>whnf)
    (repeat' ((conv=>whnf)<;>(first|exact trivial|exact VC.nod (by kernel_rfl)|refine VC.mk (by first|with_reducible rfl|(exact congrArg AV.sl (List.map_append (l₁:=ls) (l₂:=[bD lg]) (f:=Lin.av)).symm;done)|rfl) ?_)))
   ·rw [iJ,if_neg hck] at he
    subst he
    (repeat' ((conv=>whnf);first|(exfalso;omega)|refine gA ?_|(refine gB ?_ ?_<;>intro h)|(refine gI ?_;intro x hx)|(refine gJ ?_;intro j x hj hx)|refine gP ?_|refine gV ?_|refine gC (hN) ?_|refine gC (hK2) ?_|refine gC (iR most w b ls) ?_|intro _))<;>try (conv=>whnf)
    exact fv
end Go.Proofs.YtmenphiahgkjkaaGreatDoor.Abs
namespace Go.Proofs.YtmenphiahgkjkaaGreatDoor.Abs
open Go.Proofs Go.RowKit
attribute [local irreducible] bF fM aD status litValue single choice jC dB
theorem Mi (most:Int) (hm:most≤60) (f:Nat) (ih:∀(b:Lg) (v:Int) (g:Lg),g.proj.fine→g.decs.length≤20→most < v+f→1≤v→v≤most→Con 20 [.bx (Bh most v b),.d g.av] (wL most b (vis most f v g))) (v:Int) (g:Lg) (hp:g.proj.fine) (hdl:g.decs.length≤20) (hf:most < v+(f+1)) (h1:v=0) (h0:v≠most) (hv:v≤most):
  Con 20 [.bx (Zr most),.d g.av] (wL most (dB 40 0 g).1 (vis most (f+1) v g)):=by
 subst h1
 rw [pq _ _ _ _ h0]
 have hP:=zX g 40 hp (by omega)
 have hpr:=zY 40 0 g
 have hde:=Ah 40 0 g
 rw [abM] at hP
 generalize dB 40 0 g=R0 at hP hpr hde ⊢
 obtain⟨lg,n0⟩:=R0
 dsimp only at hP hpr hde ⊢
 have hph:lg.proj.fine:=hpr ▸ hp
 have hdh:lg.decs.length≤20:=hde ▸ hdl
 have hS:=Cg lg hph
 rw [VD] at hS
 generalize hW:eB lg (fun v g=>vis most f v g) (0+1)=W
 refine con Tryz.func20 rfl rfl Tryz.call20 (WX rfl) fun hwf=>?_
 simp only [ARs.wf,AR.wf,UF,Bh,Zr,AV.wf,AV.wfs,List.length_map,lim] at hwf
 cases hst:jC lg with
 |some k=>
  rw [hst] at hS
  dsimp only [Option.getD,Option.isSome] at hS
  obtain rfl:W=⟨k.lines,0+1,none,false⟩:=by rw [← hW];exact FD hst
  (repeat' ((conv=>whnf);first|(exfalso;omega)|refine gA ?_|(refine gB ?_ ?_<;>intro h)|(refine gI ?_;intro x hx)|(refine gJ ?_;intro j x hj hx)|refine gP ?_|refine gV ?_|refine gC (hP) ?_|refine gC (hS) ?_|intro _))<;>try (conv=>whnf)
  exact fv
 |none=>
 rw [hst] at hS
 dsimp only [Option.getD,Option.isSome] at hS
 have hG:=rH lg.dom
 rw [Zq] at hG
 have hC:=rG lg.proj lg.dom hph
 rw [Zp] at hC
 have keep:mJ lg=none→(match choice lg.proj lg.dom with|none=>(⟨lg.lines,0+1,none,true⟩:Way)|some l=>gu lg (fun v g=>vis most f v g) [l,negate l] lg.lines (0+1))=W:=fun e=>(FH hst e).symm.trans hW
 cases hgo:mJ lg with
 |some s=>
  obtain⟨hs1,hs2⟩:=FI hgo
  rw [hs1] at hG
  dsimp only [Option.getD,Option.isSome] at hG
  have hK:=jm lg.proj s hph
  rw [hs2] at hK
  obtain rfl:W=⟨lg.lines,0+1,some s,false⟩:=by rw [← hW];exact FE hst hgo
  (repeat' ((conv=>whnf);first|(exfalso;omega)|refine gA ?_|(refine gB ?_ ?_<;>intro h)|(refine gI ?_;intro x hx)|(refine gJ ?_;intro j x hj hx)|refine gP ?_|refine gV ?_|refine gC (hP) ?_|refine gC (hS) ?_|refine gC (hG) ?_|refine gC (hK) ?_|intro _))<;>try (conv=>whnf)
  exact fv
 |none=>
 have keep:=keep hgo
 have Uh:∀s,single lg.dom=some s→Con 11 [.d lg.proj.av,.d s.av] (.d (.bool false)):=fun s hs=>by
  have:=jm lg.proj s hph
  rwa [IG hgo hs] at this
 cases hch:choice lg.proj lg.dom with
 |none=>
  rw [hch] at hC keep
  dsimp only [Option.getD,Option.isSome] at hC keep
  subst keep
  cases hs:single lg.dom with
  |none=>
   rw [hs] at hG
   dsimp only [Option.getD,Option.isSome] at hG
   (repeat' ((conv=>whnf);first|(exfalso;omega)|refine gA ?_|(refine gB ?_ ?_<;>intro h)|(refine gI ?_;intro x hx)|(refine gJ ?_;intro j x hj hx)|refine gP ?_|refine gV ?_|refine gC (hP) ?_|refine gC (hS) ?_|refine gC (hG) ?_|refine gC (hC) ?_|refine gC (iR most (0+1) lg lg.lines) ?_|intro _))<;>try (conv=>whnf)
   exact fv
  |some s=>
   rw [hs] at hG
   dsimp only [Option.getD,Option.isSome] at hG
   (repeat' ((conv=>whnf);first|(exfalso;omega)|refine gA ?_|(refine gB ?_ ?_<;>intro h)|(refine gI ?_;intro x hx)|(refine gJ ?_;intro j x hj hx)|refine gP ?_|refine gV ?_|refine gC (hP) ?_|refine gC (hS) ?_|refine gC (hG) ?_|refine gC (hC) ?_|refine gC (Uh s hs) ?_|refine gC (iR most (0+1) lg lg.lines) ?_|intro _))<;>try (conv=>whnf)
   exact fv
 |some l=>
 rw [hch] at hC keep
 dsimp only [Option.getD,Option.isSome] at hC keep
 have fin:True:=trivial
 cases hs:single lg.dom with
 |none=>
  rw [hs] at hG
  dsimp only [Option.getD,Option.isSome] at hG
  (repeat' ((conv=>whnf);first|(exfalso;omega)|refine gA ?_|(refine gB ?_ ?_<;>intro h)|(refine gI ?_;intro x hx)|(refine gJ ?_;intro j x hj hx)|refine gP ?_|refine gV ?_|refine gC (hP) ?_|refine gC (hS) ?_|refine gC (hG) ?_|refine gC (hC) ?_|refine gC (gF l) ?_|intro _))<;>try (conv=>whnf)
  refine aB [0,3,100,101] [] [] ?_
  (conv=>whnf)
  refine aA.go ((Nat)×(List Lin)×(Int)) (fun⟨k,ls,w⟩=>(k≤2)∧(gu lg (fun v g=>vis most f v g) ([l,negate l].drop k) ls w=W)∧(0+1≤w∧w≤most)) (fun⟨k,ls,w⟩=>[(102,.data (i64 k))]) (fun⟨k,ls,w⟩=>[(3,lgC lg ls),(1000000,Bh most w lg)]) (fun _=>[]) (fun⟨k,ls,w⟩=>2 - k) ⟨0,lg.lines,0+1⟩ ?_ ?_
  ·exact⟨by omega,keep,by omega,by omega⟩
  rintro⟨k,ls,w⟩ ⟨hk,he,hw⟩
  by_cases hlt:k < 2
  ·obtain⟨x,hx,hd⟩:∃x,[l.av,(negate l).av][k]? =some x.av∧[l,negate l].drop k=x::[l,negate l].drop (k+1):=by
    rcases k with _|_|k
    ·exact⟨l,rfl,rfl⟩
    ·exact⟨negate l,rfl,rfl⟩
    ·omega
   rw [hd] at he
   have hT:=uX (dw lg ls) x hph hdh
   have hI:([l.av,(negate l).av]:List AV)[k]? =some x.av:=hx
   cases ht:takeLog (dw lg ls) x with
   |none=>
    rw [ht,zU] at hT
    dsimp only [Option.getD,Option.isSome] at hT
    rw [bQ (iK ht) (.inr rfl)] at he
    subst he
    (repeat' ((conv=>whnf);first|(exfalso;first|omega|(simp only [List.length_cons,List.length_nil] at h;omega))|refine Idx.lit hI rfl ?_|refine gA ?_|(refine gB ?_ ?_<;>intro h)|(refine gI ?_;intro x hx)|(refine gJ ?_;intro j x hj hx)|refine gP ?_|refine gV ?_|refine gC (hT) ?_|refine gC (iR most w lg ls) ?_|intro _))<;>try (conv=>whnf)
    exact fv
   |some n=>
    rw [ht,nN] at hT
    obtain⟨q1,q2,q3,q4⟩:=jK ht
    have hr:=ih lg w n (by rw [q1];exact hph) (by rw [q2,List.length_append];simp only [dw,List.length_cons,List.length_nil] at q3 ⊢;omega) (by omega) (by omega) hw.2
    have hb:=kP most f w n hw.2
    have hsw:dH lg (fun v g=>vis most f v g) x ls w=vis most f w n:=iL ht
    rcases Mh:vis most f w n with⟨l1,w1,_|s1,_|_⟩
    ·rw [Mh] at hr hb hsw
     rw [iC hsw] at he
     dsimp only at hb
     rw [wL] at hr
     (repeat' ((conv=>whnf);first|(exfalso;first|omega|(simp only [List.length_cons,List.length_nil] at h;omega))|refine Idx.lit hI rfl ?_|refine gA ?_|(refine gB ?_ ?_<;>intro h)|(refine gI ?_;intro x hx)|(refine gJ ?_;intro j x hj hx)|refine gP ?_|refine gV ?_|refine gC (hT) ?_|refine gC (hr) ?_|intro _))<;>try (conv=>whnf)
     refine nx ⟨k+1,l1,w1⟩ ?_
     exact⟨by omega,he,by omega,by omega⟩
    all_goals
     rw [Mh] at hr hsw
     rw [bQ hsw (by simp)] at he
     subst he
     rw [wL] at hr
     (repeat' ((conv=>whnf);first|(exfalso;first|omega|(simp only [List.length_cons,List.length_nil] at h;omega))|refine Idx.lit hI rfl ?_|refine gA ?_|(refine gB ?_ ?_<;>intro h)|(refine gI ?_;intro x hx)|(refine gJ ?_;intro j x hj hx)|refine gP ?_|refine gV ?_|refine gC (hT) ?_|refine gC (hr) ?_|intro _))<;>try (conv=>whnf)
     exact fv
  ·obtain rfl:k=2:=by omega
   have he:iJ lg ls w=W:=he
   (repeat' ((conv=>whnf);first|(exfalso;first|omega|(simp only [List.length_cons,List.length_nil] at h;omega))|refine gA ?_|(refine gB ?_ ?_<;>intro h)|(refine gI ?_;intro x hx)|(refine gJ ?_;intro j x hj hx)|refine gP ?_|refine gV ?_|intro _))<;>try (conv=>whnf)
   refine aB [0,3,137,138] [3] [135] ?_
   (conv=>whnf)
   refine aA.go ((Nat)×(List Lit)) (fun⟨j,o⟩=>(j≤lg.decs.length)∧(o=(lg.decs.take j).map negate)) (fun⟨j,o⟩=>[(139,.data (i64 j)),(15,.own 135 0)]) (fun⟨j,o⟩=>[(1000000,Bh most w lg)]) (fun⟨j,o⟩=>[(135,79,o.map Lit.av,0)]) (fun⟨j,o⟩=>lg.decs.length - j) ⟨0,[]⟩ ?_ ?_
   ·exact⟨Nat.zero_le _,rfl⟩
   rintro⟨j,o⟩ ⟨hj,ho⟩
   by_cases hlt2:j < lg.decs.length
   ·obtain⟨x,hx⟩:∃x,lg.decs[j]? =some x:=⟨lg.decs[j]'hlt2,by simp⟩
    have hol:o.length≤j:=by rw [ho];simp;omega
    (repeat' ((conv=>whnf);first|with_reducible refine Idx.got hx rfl ?_|(exfalso;omega)|refine gA ?_|(refine gB ?_ ?_<;>intro h)|(refine gI ?_;intro x hx)|(refine gJ ?_;intro j x hj hx)|refine gP ?_|refine gV ?_|refine gC (gF x) ?_|intro _))<;>try (conv=>whnf)
    refine nw ⟨j+1,o++[negate x]⟩ ?_ ?_
    ·(repeat' ((conv=>whnf)<;>(first|exact trivial|exact rfl|with_reducible refine And.intro ?_ ?_)))<;>((conv=>whnf)<;>(simp))
    exact⟨by omega,by rw [ho, ← oO negate hx]⟩
   obtain rfl:o=lg.decs.map negate:=by rw [ho,List.take_of_length_le (by omega)]
   have hN:=iW (lg.decs.map negate)
   have hK2:=gY lg.proj ls (bD lg) hph
   by_cases hck:aD lg.proj ls (bD lg)=0
   ·rw [iJ,if_pos hck] at he
    subst he
    rw [hck] at hK2
    have Zk:=pV hck
    have hLA:=fH ls (upTo ls.length) (fun i hi=>qI hi)
    rw [nW] at hLA
    (repeat' ((conv=>whnf);first|(exfalso;omega)|refine gA ?_|(refine gB ?_ ?_<;>intro h)|(refine gI ?_;intro x hx)|(refine gJ ?_;intro j x hj hx)|refine gP ?_|refine gV ?_|refine gC (hN) ?_|refine gC (hK2) ?_|refine gC (lD ls) ?_|refine gC (hLA) ?_|intro _))<;>try (conv=>whnf)
    (repeat' ((conv=>whnf)<;>(first|exact trivial|exact VC.nod (by kernel_rfl)|refine VC.mk (by first|with_reducible rfl|(exact congrArg AV.sl (List.map_append (l₁:=ls) (l₂:=[bD lg]) (f:=Lin.av)).symm;done)|rfl) ?_)))
   ·rw [iJ,if_neg hck] at he
    subst he
    (repeat' ((conv=>whnf);first|(exfalso;omega)|refine gA ?_|(refine gB ?_ ?_<;>intro h)|(refine gI ?_;intro x hx)|(refine gJ ?_;intro j x hj hx)|refine gP ?_|refine gV ?_|refine gC (hN) ?_|refine gC (hK2) ?_|refine gC (iR most w lg ls) ?_|intro _))<;>try (conv=>whnf)
    exact fv
 |some s=>
  rw [hs] at hG
  dsimp only [Option.getD,Option.isSome] at hG
  (repeat' ((conv=>whnf);first|(exfalso;omega)|refine gA ?_|(refine gB ?_ ?_<;>intro h)|(refine gI ?_;intro x hx)|(refine gJ ?_;intro j x hj hx)|refine gP ?_|refine gV ?_|refine gC (hP) ?_|refine gC (hS) ?_|refine gC (hG) ?_|refine gC (hC) ?_|refine gC (Uh s hs) ?_|refine gC (gF l) ?_|intro _))<;>try (conv=>whnf)
  refine aB [0,3,100,101] [] [] ?_
  (conv=>whnf)
  refine aA.go ((Nat)×(List Lin)×(Int)) (fun⟨k,ls,w⟩=>(k≤2)∧(gu lg (fun v g=>vis most f v g) ([l,negate l].drop k) ls w=W)∧(0+1≤w∧w≤most)) (fun⟨k,ls,w⟩=>[(102,.data (i64 k))]) (fun⟨k,ls,w⟩=>[(3,lgC lg ls),(1000000,Bh most w lg)]) (fun _=>[]) (fun⟨k,ls,w⟩=>2 - k) ⟨0,lg.lines,0+1⟩ ?_ ?_
  ·exact⟨by omega,keep,by omega,by omega⟩
  rintro⟨k,ls,w⟩ ⟨hk,he,hw⟩
  by_cases hlt:k < 2
  ·obtain⟨x,hx,hd⟩:∃x,[l.av,(negate l).av][k]? =some x.av∧[l,negate l].drop k=x::[l,negate l].drop (k+1):=by
    rcases k with _|_|k
    ·exact⟨l,rfl,rfl⟩
    ·exact⟨negate l,rfl,rfl⟩
    ·omega
   rw [hd] at he
   have hT:=uX (dw lg ls) x hph hdh
   have hI:([l.av,(negate l).av]:List AV)[k]? =some x.av:=hx
   cases ht:takeLog (dw lg ls) x with
   |none=>
    rw [ht,zU] at hT
    dsimp only [Option.getD,Option.isSome] at hT
    rw [bQ (iK ht) (.inr rfl)] at he
    subst he
    (repeat' ((conv=>whnf);first|(exfalso;first|omega|(simp only [List.length_cons,List.length_nil] at h;omega))|refine Idx.lit hI rfl ?_|refine gA ?_|(refine gB ?_ ?_<;>intro h)|(refine gI ?_;intro x hx)|(refine gJ ?_;intro j x hj hx)|refine gP ?_|refine gV ?_|refine gC (hT) ?_|refine gC (iR most w lg ls) ?_|intro _))<;>try (conv=>whnf)
    exact fv
   |some n=>
    rw [ht,nN] at hT
    obtain⟨q1,q2,q3,q4⟩:=jK ht
    have hr:=ih lg w n (by rw [q1];exact hph) (by rw [q2,List.length_append];simp only [dw,List.length_cons,List.length_nil] at q3 ⊢;omega) (by omega) (by omega) hw.2
    have hb:=kP most f w n hw.2
    have hsw:dH lg (fun v g=>vis most f v g) x ls w=vis most f w n:=iL ht
    rcases Mh:vis most f w n with⟨l1,w1,_|s1,_|_⟩
    ·rw [Mh] at hr hb hsw
     rw [iC hsw] at he
     dsimp only at hb
     rw [wL] at hr
     (repeat' ((conv=>whnf);first|(exfalso;first|omega|(simp only [List.length_cons,List.length_nil] at h;omega))|refine Idx.lit hI rfl ?_|refine gA ?_|(refine gB ?_ ?_<;>intro h)|(refine gI ?_;intro x hx)|(refine gJ ?_;intro j x hj hx)|refine gP ?_|refine gV ?_|refine gC (hT) ?_|refine gC (hr) ?_|intro _))<;>try (conv=>whnf)
     refine nx ⟨k+1,l1,w1⟩ ?_
     exact⟨by omega,he,by omega,by omega⟩
    all_goals
     rw [Mh] at hr hsw
     rw [bQ hsw (by simp)] at he
     subst he
     rw [wL] at hr
     (repeat' ((conv=>whnf);first|(exfalso;first|omega|(simp only [List.length_cons,List.length_nil] at h;omega))|refine Idx.lit hI rfl ?_|refine gA ?_|(refine gB ?_ ?_<;>intro h)|(refine gI ?_;intro x hx)|(refine gJ ?_;intro j x hj hx)|refine gP ?_|refine gV ?_|refine gC (hT) ?_|refine gC (hr) ?_|intro _))<;>try (conv=>whnf)
     exact fv
  ·obtain rfl:k=2:=by omega
   have he:iJ lg ls w=W:=he
   (repeat' ((conv=>whnf);first|(exfalso;first|omega|(simp only [List.length_cons,List.length_nil] at h;omega))|refine gA ?_|(refine gB ?_ ?_<;>intro h)|(refine gI ?_;intro x hx)|(refine gJ ?_;intro j x hj hx)|refine gP ?_|refine gV ?_|intro _))<;>try (conv=>whnf)
   refine aB [0,3,137,138] [3] [135] ?_
   (conv=>whnf)
   refine aA.go ((Nat)×(List Lit)) (fun⟨j,o⟩=>(j≤lg.decs.length)∧(o=(lg.decs.take j).map negate)) (fun⟨j,o⟩=>[(139,.data (i64 j)),(15,.own 135 0)]) (fun⟨j,o⟩=>[(1000000,Bh most w lg)]) (fun⟨j,o⟩=>[(135,79,o.map Lit.av,0)]) (fun⟨j,o⟩=>lg.decs.length - j) ⟨0,[]⟩ ?_ ?_
   ·exact⟨Nat.zero_le _,rfl⟩
   rintro⟨j,o⟩ ⟨hj,ho⟩
   by_cases hlt2:j < lg.decs.length
   ·obtain⟨x,hx⟩:∃x,lg.decs[j]? =some x:=⟨lg.decs[j]'hlt2,by simp⟩
    have hol:o.length≤j:=by rw [ho];simp;omega
    (repeat' ((conv=>whnf);first|with_reducible refine Idx.got hx rfl ?_|(exfalso;omega)|refine gA ?_|(refine gB ?_ ?_<;>intro h)|(refine gI ?_;intro x hx)|(refine gJ ?_;intro j x hj hx)|refine gP ?_|refine gV ?_|refine gC (gF x) ?_|intro _))<;>try (conv=>whnf)
    refine nw ⟨j+1,o++[negate x]⟩ ?_ ?_
    ·(repeat' ((conv=>whnf)<;>(first|exact trivial|exact rfl|with_reducible refine And.intro ?_ ?_)))<;>((conv=>whnf)<;>(simp))
    exact⟨by omega,by rw [ho, ← oO negate hx]⟩
   obtain rfl:o=lg.decs.map negate:=by rw [ho,List.take_of_length_le (by omega)]
   have hN:=iW (lg.decs.map negate)
   have hK2:=gY lg.proj ls (bD lg) hph
   by_cases hck:aD lg.proj ls (bD lg)=0
   ·rw [iJ,if_pos hck] at he
    subst he
    rw [hck] at hK2
    have Zk:=pV hck
    have hLA:=fH ls (upTo ls.length) (fun i hi=>qI hi)
    rw [nW] at hLA
    (repeat' ((conv=>whnf);first|(exfalso;omega)|refine gA ?_|(refine gB ?_ ?_<;>intro h)|(refine gI ?_;intro x hx)|(refine gJ ?_;intro j x hj hx)|refine gP ?_|refine gV ?_|refine gC (hN) ?_|refine gC (hK2) ?_|refine gC (lD ls) ?_|refine gC (hLA) ?_|intro _))<;>try (conv=>whnf)
    (repeat' ((conv=>whnf)<;>(first|exact trivial|exact VC.nod (by kernel_rfl)|refine VC.mk (by first|with_reducible rfl|(exact congrArg AV.sl (List.map_append (l₁:=ls) (l₂:=[bD lg]) (f:=Lin.av)).symm;done)|rfl) ?_)))
   ·rw [iJ,if_neg hck] at he
    subst he
    (repeat' ((conv=>whnf);first|(exfalso;omega)|refine gA ?_|(refine gB ?_ ?_<;>intro h)|(refine gI ?_;intro x hx)|(refine gJ ?_;intro j x hj hx)|refine gP ?_|refine gV ?_|refine gC (hN) ?_|refine gC (hK2) ?_|refine gC (iR most w lg ls) ?_|intro _))<;>try (conv=>whnf)
    exact fv
end Go.Proofs.YtmenphiahgkjkaaGreatDoor.Abs
namespace Go.Proofs.YtmenphiahgkjkaaGreatDoor.Abs
open Go.Proofs Go.RowKit
attribute [local irreducible] bF fM aD status litValue single choice jC dB vis
structure Ri where
 log:Lg
 sched:aJ
 found:Bool
 visits:Int
 stopped:Bool
abbrev Ri.cellsOf (x:Ri):List AV:=[i64 x.log.proj.dead,.sl (x.log.proj.acts.map aC.av),.sl (x.log.proj.links.map Link.av),.sl (x.log.proj.bB.map dR.av),ints x.log.proj.aW,ints x.log.dom.lo,ints x.log.dom.hi,.sl (x.log.dom.modes.map ints),lits x.log.decs,.sl (x.log.lines.map Lin.av),ints x.sched.starts,ints x.sched.modes,.bool x.found,i64 x.visits,.bool x.stopped]
abbrev Ri.av (x:Ri):AV:=.agg x.cellsOf
def abN (x:Ri):RV:=.agg [.d (i64 x.log.proj.dead),.lin 101 (x.log.proj.acts.map aC.av),.lin 104 (x.log.proj.links.map Link.av),.lin 96 (x.log.proj.bB.map dR.av),.lin 3 (x.log.proj.aW.map i64),.lin 3 (x.log.dom.lo.map i64),.lin 3 (x.log.dom.hi.map i64),.lin 26 (x.log.dom.modes.map ints),.lin 79 (x.log.decs.map Lit.av),.lin 75 (x.log.lines.map Lin.av),.lin 3 (x.sched.starts.map i64),.lin 3 (x.sched.modes.map i64),.d (.bool x.found),.d (i64 x.visits),.d (.bool x.stopped)]
def Dt (h:Lg) (w:Way):Ri:=⟨dw h w.lines,w.found.getD ⟨[],[]⟩,w.found.isSome,w.visits,w.stopped⟩
def dQ (g:Lg) (most:Int):Ri:=if tu g=true∧within most 1 60=true then Dt (dB 40 0 g).1 (vis most (most.toNat+1) 0 g) else⟨WI,⟨[],[]⟩,false,0,false⟩
theorem OV (most:Int) (hm:most≤60):∀(f:Nat) (b:Lg) (v:Int) (g:Lg),g.proj.fine→g.decs.length≤20→most < v+f→1≤v→v≤most→Con 20 [.bx (Bh most v b),.d g.av] (wL most b (vis most f v g))
 |0,b,v,g,_,_,h,_,h2=>by omega
 |f+1,b,v,g,hp,hd,hf,h1,hv=>by
  by_cases h0:v=most
  ·subst h0
   rw [wK]
   exact Jk v b g
  ·exact Nq most hm b f (OV most hm f) v g hp hd hf h1 h0 hv
theorem Ui (g:Lg) (most:Int) (hp:g.proj.fine):Con 6 [.d g.av,.d (i64 most)] (abN (dQ g most)):=by
 refine con Tryz.func6 rfl rfl Tryz.call6 rfl fun hwf=>?_
 have hO:=Ma g hp
 have hW:=aS most 1 60
 by_cases hk:tu g=true∧within most 1 60=true
 ·obtain⟨h1,h2⟩:=hk
  have hb:=within_iff.1 h2
  rw [dQ,if_pos ⟨h1,h2⟩]
  rw [h1] at hO
  rw [h2] at hW
  obtain⟨m,rfl⟩:∃m:Nat,most=m:=⟨most.toNat,by omega⟩
  rw [Int.toNat_natCast]
  have hV:=Mi m (by omega) m (OV m (by omega) m) 0 g hp (VJ h1) (by omega) rfl (by omega) (by omega)
  generalize (dB 40 0 g).1=h at hV ⊢
  generalize vis m (m+1) 0 g=W at hV ⊢
  rcases W with⟨ls,v,_|s,st⟩
  all_goals
   rw [wL] at hV
   have hLA:=fH ls (upTo ls.length) (fun i hi=>qI hi)
   rw [nW] at hLA
   (repeat' ((conv=>whnf);first|refine gA ?_|(refine gN ?_ ?_<;>intro h hw)|(refine gB ?_ ?_<;>intro h)|refine gC (hO) ?_|refine gC (hW) ?_|refine gC (vN g) ?_|refine gC (hV) ?_|refine gC (vN h) ?_|refine gC (lD ls) ?_|refine gC (hLA) ?_|intro _))<;>try (conv=>whnf)
   exact fv
 ·rw [dQ,if_neg hk]
  (repeat' ((conv=>whnf);first|refine gA ?_|(refine gN ?_ ?_<;>intro h hw)|(refine gB ?_ ?_<;>intro h)|refine gC (hO) ?_|refine gC (hW) ?_|intro _))<;>try (conv=>whnf)
  all_goals first
   |(exfalso;simp_all;done)
   |exact fv
end Go.Proofs.YtmenphiahgkjkaaGreatDoor.Abs
