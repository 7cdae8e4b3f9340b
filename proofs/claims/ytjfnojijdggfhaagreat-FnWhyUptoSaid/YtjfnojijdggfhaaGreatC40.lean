/- Contracts: propagation, as separate data. -/
import Derived.Test.YtjfnojijdggfhaaGreatC35
import Derived.Test.YtjfnojijdggfhaaGreatC33
set_option linter.all false
set_option maxRecDepth 20000
set_option maxHeartbeats 0
namespace Go.Proofs.YtjfnojijdggfhaaGreat.Abs
open Go.Proofs Go.RowKit
def Wh (o:Option Infer):RV:=let x:=o.getD TH;.tup [.agg [.d (i64 x.lit.kind),.d (i64 x.lit.act),.d (i64 x.lit.val),.d (i64 x.rule.kind),.d (i64 x.rule.a),.d (i64 x.rule.b),.d (i64 x.rule.c),.lin 42 (x.clause.map Lit.av)],.d (.bool o.isSome)]
theorem ug (p:Proj) (b:Dom) (hp:p.fine):Con 30 [.d p.av,.d b.av] (Wh (bL p b)):=by
 refine con Tryz.func30 rfl rfl Tryz.call30 rfl fun hwf=>?_
 have hF:=fU p b hp
 have hcl:=sM p b
 cases hn:(eX p b).isSome with
 |true=>
  rw [bL,if_pos hn]
  rw [NU,hn] at hF
  (repeat' ((conv=>whnf);first|refine gA ?_|(refine gB ?_ ?_<;>intro h)|(refine gI ?_;intro x hx)|(refine gJ ?_;intro j x hj hx)|refine gV ?_|refine gC (hF) ?_|intro _))<;>try (conv=>whnf)
  exact fv
 |false=>
  rw [bL,if_neg (by simp [hn])]
  rw [NU,hn] at hF
  (repeat' ((conv=>whnf);first|refine gA ?_|(refine gB ?_ ?_<;>intro h)|(refine gI ?_;intro x hx)|(refine gJ ?_;intro j x hj hx)|refine gV ?_|refine gC (hF) ?_|refine gC (jd p b hp) ?_|intro _))<;>try (conv=>whnf)
  refine aB [2,3,4,26,27] [2,3,4] [] ?_
  (conv=>whnf)
  refine aA.go ((Nat)) (fun k=>(k≤(aN p b).length)∧(((aN p b).drop k).findSome? (lN p b)=(aN p b).findSome? (lN p b))) (fun k=>[(28,.data (i64 k))]) (fun _=>[]) (fun _=>[]) (fun k=>(aN p b).length - k) (0) ?_ ?_
  ·exact⟨Nat.zero_le _,rfl⟩
  rintro k ⟨hk,hi⟩
  by_cases hlt:k < (aN p b).length
  rotate_left
  ·(repeat' ((conv=>whnf);first|(exfalso;omega)|refine gA ?_|(refine gB ?_ ?_<;>intro h)|(refine gI ?_;intro x hx)|(refine gJ ?_;intro j x hj hx)|refine gV ?_|intro _))<;>try (conv=>whnf)
   rw [aJ (by assumption)] at hi
   rw [← hi]
   exact fv
  obtain⟨r,hr⟩:∃r,(aN p b)[k]? =some r:=⟨(aN p b)[k]'hlt,by simp⟩
  obtain⟨hu,hro⟩:=vC (List.mem_of_getElem? hr)
  have hf:=pK hu
  have hal:=CZ p r
  rw [yG hr] at hi
  (repeat' ((conv=>whnf);first|with_reducible refine Idx.got hr rfl ?_|refine gA ?_|(refine gB ?_ ?_<;>intro h)|(refine gI ?_;intro x hx)|(refine gJ ?_;intro j x hj hx)|refine gV ?_|refine gC (oU p r hp) ?_|intro _))<;>try (conv=>whnf)
  rotate_left
  ·exact trivial
  refine aB [2,3,4,9,26,27,28,34,35] [2,3,4,9] [] ?_
  (conv=>whnf)
  refine aA.go ((Nat)) (fun j=>(j≤(dH p r).length)∧(((dH p r).drop j).findSome? (vE p b r)=lN p b r)) (fun j=>[(36,.data (i64 j))]) (fun _=>[]) (fun _=>[]) (fun j=>(dH p r).length - j) (0) ?_ ?_
  ·exact⟨Nat.zero_le _,rfl⟩
  rintro j ⟨hj,hi2⟩
  by_cases hjl:j < (dH p r).length
  rotate_left
  ·rw [aJ (by omega)] at hi2
   rw [← hi2] at hi
   (repeat' ((conv=>whnf);first|(exfalso;omega)|refine gA ?_|(refine gB ?_ ?_<;>intro h)|(refine gI ?_;intro x hx)|(refine gJ ?_;intro j x hj hx)|refine gV ?_|intro _))<;>try (conv=>whnf)
   refine nx (k+1) ?_
   exact⟨by omega,hi⟩
  obtain⟨a,ha⟩:∃a,(dH p r)[j]? =some a:=⟨(dH p r)[j]'hjl,by simp⟩
  obtain⟨n,rfl,hna⟩:=vD (List.mem_of_getElem? ha)
  have hil:=JA p b r n hf hna
  rw [yG ha,vE,Int.toNat_natCast] at hi2
  (repeat' ((conv=>whnf);first|with_reducible refine Idx.got ha rfl ?_|refine gA ?_|(refine gB ?_ ?_<;>intro h)|(refine gI ?_;intro x hx)|(refine gJ ?_;intro j x hj hx)|refine gV ?_|refine gC (zD p b r n hp hf hna) ?_|intro _))<;>try (conv=>whnf)
  rotate_left
  ·exfalso;omega
  refine aB [2,3,4,9,26,27,28,34,35,36,44,45] [2,3,4,9] [] ?_
  (conv=>whnf)
  refine aA.go ((Nat)) (fun m=>(m=0)) (fun m=>[(46,.data (i64 m))]) (fun _=>[]) (fun _=>[]) (fun m=>0) (0) ?_ ?_
  ·rfl
  rintro m hm
  subst hm
  by_cases h0:0 < (iR p b r n).length
  ·obtain⟨l,hx⟩:∃l,(iR p b r n)[0]? =some l:=⟨(iR p b r n)[0]'h0,by simp⟩
   have hh:(iR p b r n).head? =some l:=by rw [List.head?_eq_getElem?];exact hx
   rw [hh] at hi2
   have hi3:some (⟨l,r,(dw p b r l).1⟩:Infer)=lN p b r:=hi2
   rw [← hi3] at hi
   have hi4:some (⟨l,r,(dw p b r l).1⟩:Infer)=(aN p b).findSome? (lN p b):=hi
   rw [← hi4]
   (repeat' ((conv=>whnf);first|with_reducible refine Idx.got hx rfl ?_|refine gA ?_|(refine gB ?_ ?_<;>intro h)|(refine gI ?_;intro x hx)|(refine gJ ?_;intro j x hj hx)|refine gV ?_|refine gC (uf p b r l hp) ?_|intro _))<;>try (conv=>whnf)
   ·exact fv
   ·exfalso;omega
  ·have hh:(iR p b r n).head? =none:=by rw [List.head?_eq_none_iff];exact List.eq_nil_of_length_eq_zero (by omega)
   rw [hh] at hi2
   (repeat' ((conv=>whnf);first|(exfalso;omega)|refine gA ?_|(refine gB ?_ ?_<;>intro h)|(refine gI ?_;intro x hx)|(refine gJ ?_;intro j x hj hx)|refine gV ?_|intro _))<;>try (conv=>whnf)
   refine nx (j+1) ?_
   exact⟨by omega,hi2⟩
theorem zH (l:List Int) (fc:Nat) (caps:List AV) (p:Int→Bool) (hc:∀n:Int,Con fc ([.d (i64 n)]++caps.map .ref) (.d (.bool (p n)))):Con 82 [.d (ints l),.fn fc caps] (.lin 3 ((l.filter p).map i64)):=by
 refine con Tryz.func82 rfl rfl Tryz.call82 rfl fun hwf=>?_
 simp only [ARs.wf,AR.wf,AV.wf,AV.wfs,lm,lim] at hwf
 (repeat' ((conv=>whnf);first|refine gA ?_|(refine gB ?_ ?_<;>intro h)|(refine gI ?_;intro x hx)|(refine gJ ?_;intro j x hj hx)|refine gP ?_|refine gV ?_|intro _))<;>try (conv=>whnf)
 refine aB [1,9,10] [] [8] ?_
 (conv=>whnf)
 refine aA.go ((Nat)×(List Int)) (fun⟨k,o⟩=>(k≤l.length)∧(o.length≤k)∧(o++(l.drop k).filter p=l.filter p)) (fun⟨k,o⟩=>[(11,.data (i64 k)),(5,.own 8 0)]) (fun _=>[]) (fun⟨k,o⟩=>[(8,3,o.map i64,1)]) (fun⟨k,o⟩=>l.length - k) ⟨0,[]⟩ ?_ ?_
 ·exact⟨by omega,by simp,rfl⟩
 rintro⟨k,o⟩ ⟨hk,ho,hi⟩
 (repeat' ((conv=>whnf);first|refine gA ?_|(refine gB ?_ ?_<;>intro h)|(refine gI ?_;intro x hx)|(refine gJ ?_;intro j x hj hx)|refine gP ?_|refine gV ?_|refine gC (hc x) ?_|intro _))<;>try (conv=>whnf)
 ·refine nw ⟨k+1,o++[x]⟩ ?_ ?_
  ·(repeat' ((conv=>whnf)<;>(first|exact trivial|exact rfl|with_reducible refine And.intro ?_ ?_)))<;>((conv=>whnf)<;>(simp))
  exact⟨by omega,by simp;omega,(gH hi hx).1 h⟩
 ·refine nx ⟨k+1,o⟩ ?_
  exact⟨by omega,by omega,(gH hi hx).2 h⟩
 ·refine⟨?_,rfl,trivial⟩
  rw [← hi,aJ (by assumption)];simp
theorem Ak (l:List Int) (n:Int):Con 84 [.d (ints l),.d (i64 n)] (.lin 3 ((without l n).map i64)):=by
 refine con Tryz.func84 rfl rfl Tryz.call84 rfl fun hwf=>?_
 (repeat' ((conv=>whnf);first|refine gA ?_|(refine gB ?_ ?_<;>intro h)|refine gC (zH l 136 [i64 n] _ fun x=>vS x n) ?_|intro _))<;>try (conv=>whnf)
 exact⟨rfl,rfl,trivial⟩
theorem Dn (b:Dom) (l:Lit):Con 31 [.d b.av,.d l.av] (VN (restrict b l)):=by
 refine con Tryz.func31 rfl rfl Tryz.call31 rfl fun hwf=>?_
 cases hd:fq b l.act with
 |false=>
  rw [restrict,if_neg (by simp [hd])]
  (repeat' ((conv=>whnf);first|refine gA ?_|(refine gB ?_ ?_<;>intro h)|(refine gI ?_;intro x hx)|(refine gJ ?_;intro j x hj hx)|refine gC (jG b) ?_|refine gC (tN b _) ?_|intro _))<;>try (conv=>whnf)
  exact fv
 |true=>
  obtain⟨n,x,y,m,ha,hlo,hhi,hmo⟩:=uW hd
  have han:l.act.toNat=n:=by omega
  (repeat' ((conv=>whnf);first|with_reducible refine Idx.got hlo (by first|exact ha|rfl) ?_|with_reducible refine Idx.got hhi (by first|exact ha|rfl) ?_|with_reducible refine Idx.got hmo (by first|exact ha|rfl) ?_|refine gA ?_|(refine gB ?_ ?_<;>intro h)|(refine gI ?_;intro x hx)|(refine gJ ?_;intro j x hj hx)|refine gC (jG b) ?_|refine gC (tN b _) ?_|refine gC (Ci _) ?_|refine gC (zH m 83 [i64 (clamped l.val)] _ (fun y=>xk y (clamped l.val))) ?_|refine gC (Ak m _) ?_|intro _))<;>try (conv=>whnf)
  all_goals
   (repeat' ((conv=>whnf)<;>(first|exact trivial|exact VC.nod (by kernel_rfl)|refine VC.mk rfl ?_|refine VC.mk (by (rw [restrict,if_pos hd];simp [*,List.map_set,List.getD_eq_getElem?_getD,fF,without])) ?_)))
attribute [local irreducible] bL ay within
def jw (p:Proj):Nat→Dom→List Infer→Dom×List Infer
 |0,b,l=>(b,l)
 |f+1,b,l=>match bL p b with|none=>(b,l)|some s=>jw p f (restrict b s.lit) (l++[s])
theorem KC (p:Proj) (b:Dom) (l:List Infer):jw p 0 b l=(b,l):=rfl
theorem KD (p:Proj) (f:Nat) (b:Dom) (l:List Infer):jw p (f+1) b l=(match bL p b with|none=>(b,l)|some s=>jw p f (restrict b s.lit) (l++[s])):=rfl
def propagated (p:Proj) (b:Dom) (most:Int):Dom×List Infer:=if ay p b=true∧within most 0 60=true then jw p most.toNat b [] else (b,[])
def Wi (r:Dom×List Infer):RV:=.tup [VN r.1,.lin 62 (r.2.map Infer.av)]
theorem JJ (p:Proj) (b:Dom) (most:Int) (hp:p.fine):Con 26 [.d p.av,.d b.av,.d (i64 most)] (Wi (propagated p b most)):=by
 refine con Tryz.func26 rfl rfl Tryz.call26 rfl fun hwf=>?_
 by_cases hc:ay p b=true∧within most 0 60=true
 rotate_left
 ·rw [propagated,if_neg hc]
  (repeat' ((conv=>whnf);first|refine gA ?_|(refine gN ?_ ?_<;>intro h hw)|(refine gB ?_ ?_<;>intro h)|refine gP ?_|refine gC (jG b) ?_|refine gC (aQ p b hp) ?_|refine gC (aP most 0 60) ?_|intro _))<;>try (conv=>whnf)
  all_goals first
   |(exfalso;exact hc ⟨by assumption,by assumption⟩)
   |exact fv
 obtain⟨hf,hw⟩:=hc
 have hwb:=within_iff.1 hw
 rw [propagated,if_pos ⟨hf,hw⟩]
 generalize hR:jw p most.toNat b []=R
 (repeat' ((conv=>whnf);first|with_reducible refine Br.yes hf ?_|with_reducible refine Br.yes hw ?_|refine gA ?_|(refine gN ?_ ?_<;>intro h hw)|(refine gB ?_ ?_<;>intro h)|refine gP ?_|refine gC (jG b) ?_|refine gC (aQ p b hp) ?_|refine gC (aP most 0 60) ?_|intro _))<;>try (conv=>whnf)
 all_goals first
  |(exfalso;simp_all;done)
  |skip
 refine aB [2,3,6,8] [3,6] [900001,900002,900003,24] ?_
 (conv=>whnf)
 refine aA.go ((Dom)×(List Infer)) (fun⟨d,l⟩=>((l.length:Int)≤most)∧(jw p (most - l.length).toNat d l=R)) (fun⟨d,l⟩=>[(9,.own 24 0)]) (fun⟨d,l⟩=>[(8,[.own 900001 0,.own 900002 0,.own 900003 0])]) (fun⟨d,l⟩=>[(900001,3,d.lo.map i64,2),(900002,3,d.hi.map i64,2),(900003,26,d.modes.map ints,2),(24,62,l.map Infer.av,1)]) (fun⟨d,l⟩=>(most - l.length).toNat) ⟨b,[]⟩ ?_ ?_
 ·exact⟨by simp;omega,by simpa using hR⟩
 rintro⟨d,l⟩ ⟨hl,he⟩
 by_cases hlt:(l.length:Int) < most
 rotate_left
 ·rw [show (most - l.length).toNat=0 by omega,KC] at he
  subst he
  (repeat' ((conv=>whnf);first|(exfalso;omega)|refine gA ?_|(refine gN ?_ ?_<;>intro h hw)|(refine gB ?_ ?_<;>intro h)|refine gP ?_|intro _))<;>try (conv=>whnf)
  exact fv
 rw [show (most - l.length).toNat=(most - (l.length+1:Nat)).toNat+1 by omega,KD] at he
 have hF:=ug p d hp
 cases h1:bL p d with
 |none=>
  rw [Wh,h1] at hF
  dsimp only [Option.getD,Option.isSome] at hF
  rw [h1] at he
  have he:(d,l)=R:=he
  subst he
  (repeat' ((conv=>whnf);first|(exfalso;omega)|refine gA ?_|(refine gN ?_ ?_<;>intro h hw)|(refine gB ?_ ?_<;>intro h)|refine gP ?_|refine gC (hF) ?_|intro _))<;>try (conv=>whnf)
  all_goals exact fv
 |some s=>
  rw [Wh,h1] at hF
  dsimp only [Option.getD,Option.isSome] at hF
  rw [h1] at he
  have he:jw p (most - (l.length+1:Nat)).toNat (restrict d s.lit) (l++[s])=R:=he
  (repeat' ((conv=>whnf);first|(exfalso;omega)|refine gA ?_|(refine gN ?_ ?_<;>intro h hw)|(refine gB ?_ ?_<;>intro h)|refine gP ?_|refine gC (hF) ?_|refine gC (Dn d s.lit) ?_|intro _))<;>try (conv=>whnf)
  have hls:(l++[s]).length=l.length+1:=by simp
  refine nw ⟨restrict d s.lit,l++[s]⟩ ?_ ?_
  ·(repeat' ((conv=>whnf)<;>(first|exact trivial|exact rfl|with_reducible refine And.intro ?_ ?_)))<;>((conv=>whnf)<;>(simp))
  refine⟨by simp;omega,?_⟩
  rw [List.length_append,List.length_singleton];exact he
end Go.Proofs.YtjfnojijdggfhaaGreat.Abs
