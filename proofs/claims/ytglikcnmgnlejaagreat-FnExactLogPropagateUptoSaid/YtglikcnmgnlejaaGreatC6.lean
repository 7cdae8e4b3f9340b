/- Contracts: literals in domains, clauses in domains. -/
import Derived.Test.YtglikcnmgnlejaaGreatC5
set_option linter.all false
set_option maxRecDepth 20000
set_option maxHeartbeats 0
namespace Go.Proofs.YtglikcnmgnlejaaGreat.Abs
open Go.Proofs
def sameAt (a b:List Int) (i:Nat):Bool:=decide (a.getD i 0=b.getD i 0)
theorem VD {a b:List Int} (h:a.length=b.length):decide (a=b)=Ep a.length (sameAt a b):=by
 rw [Bool.eq_iff_iff,decide_eq_true_eq,dN]
 constructor
 ·rintro rfl i hi;simp [sameAt]
 ·intro hh
  refine List.ext_getElem h fun i h1 h2=>?_
  have:=hh i h1
  simpa [sameAt,List.getD_eq_getElem?_getD,List.getElem?_eq_getElem h1,List.getElem?_eq_getElem h2] using this
theorem slices_Equal_int (a b:List Int):Con 414 [.d (ints a),.d (ints b)] (.d (.bool (decide (a=b)))):=by
 refine con Tryz.func414 rfl rfl Tryz.call414 rfl fun hwf=>?_
 simp only [ARs.wf,AR.wf,AV.wf,AV.wfs,lm,lim] at hwf
 by_cases hl:a.length=b.length
 ·rw [VD hl]
  (repeat' ((conv=>whnf);first|(exfalso;omega)|refine gA ?_|(refine gB ?_ ?_<;>intro h)|(refine gI ?_;intro x hx)|(refine gJ ?_;intro j x hj hx)|refine gV ?_|intro _))<;>try (conv=>whnf)
  refine au [0,1,12] [] [] ?_
  (conv=>whnf)
  refine ak.go ((Nat)) (fun k=>(k≤a.length)∧(∀i,i < k→sameAt a b i=true)) (fun k=>[(13,.data (i64 k))]) (fun _=>[]) (fun _=>[]) (fun k=>a.length - k) (0) ?_ ?_
  ·exact⟨by omega,by omega⟩
  rintro k ⟨hk,hi⟩
  (repeat' ((conv=>whnf);first|refine gA ?_|(refine gB ?_ ?_<;>intro h)|(refine gI ?_;intro x hx)|(refine gJ ?_;intro j x hj hx)|refine gV ?_|intro _))<;>try (conv=>whnf)
  all_goals first
   |(refine⟨?_,rfl,trivial⟩;rw [iw k (by omega) (by simp [sameAt,List.getD_eq_getElem?_getD, *])];done)
   |(refine nx (k+1) ?_
     exact⟨by omega,gU hi (by simp [sameAt,List.getD_eq_getElem?_getD, *])⟩)
   |(refine⟨?_,rfl,trivial⟩;rw [dN.2 fun i hh=>hi i (by omega)])
 ·(repeat' ((conv=>whnf);first|(exfalso;omega)|refine gA ?_|(refine gB ?_ ?_<;>intro h)|(refine gI ?_;intro x hx)|(refine gJ ?_;intro j x hj hx)|refine gV ?_|intro _))<;>try (conv=>whnf)
  all_goals first
   |(exfalso;omega)
   |(refine⟨?_,rfl,trivial⟩;simp;intro e;rw [e] at hl;exact hl rfl)
theorem Nl (a b:List Int):Con 375 [.d (ints a),.d (ints b)] (.d (.bool (decide (a=b)))):=by
 refine con Tryz.func375 rfl rfl Tryz.call375 rfl fun hwf=>?_
 (repeat' ((conv=>whnf);first|refine gA ?_|(refine gB ?_ ?_<;>intro h)|refine gC (slices_Equal_int a b) ?_|intro _))<;>try (conv=>whnf)
 exact⟨rfl,rfl,trivial⟩
theorem QI (a b:Bool):Con 374 [.d (.bool a),.d (.bool b)] (.d (i64 (valueOf a b))):=by
 refine con Tryz.func374 rfl rfl Tryz.call374 rfl fun hwf=>?_
 cases a<;>cases b
 all_goals ((repeat' ((conv=>whnf);first|refine gA ?_|(refine gB ?_ ?_<;>intro h)|intro _))<;>try (conv=>whnf))
 all_goals exact⟨rfl,rfl,trivial⟩
theorem BZ (a b:Bool):Con 357 [.d (.bool a),.d (.bool b)] (.d (i64 (valueOf a b))):=by
 refine con Tryz.func357 rfl rfl Tryz.call357 rfl fun hwf=>?_
 cases a<;>cases b
 all_goals ((repeat' ((conv=>whnf);first|refine gA ?_|(refine gB ?_ ?_<;>intro h)|intro _))<;>try (conv=>whnf))
 all_goals exact⟨rfl,rfl,trivial⟩
theorem VE (a b:Bool): -1≤valueOf a b∧valueOf a b≤1:=by cases a<;>cases b<;>simp [valueOf]
theorem TD {m:List Int} {v:Int}:0 - valueOf (decide (m= [v])) (!m.contains v)=valueOf (!m.contains v) (decide (m= [v])):=by
 by_cases h:m= [v]
 ·subst h;simp [valueOf]
 ·cases hc:m.contains v<;>simp [valueOf,h]
theorem jI (b:Dom) (l:Lit):Con 296 [.d b.av,.d l.av] (.d (i64 (litValue b l))):=by
 refine con Tryz.func296 rfl rfl Tryz.call296 rfl fun hwf=>?_
 cases hd:lF b l.act with
 |false=>
  (repeat' ((conv=>whnf);first|refine gA ?_|(refine gB ?_ ?_<;>intro h)|(refine gI ?_;intro x hx)|(refine gJ ?_;intro j x hj hx)|refine gV ?_|refine gC (wJ b _) ?_|intro _))<;>try (conv=>whnf)
  refine⟨?_,rfl,trivial⟩
  rw [litValue,if_neg (by simp [hd])]
 |true=>
  obtain⟨n,x,y,m,ha,hlo,hhi,hmo⟩:=tQ hd
  have han:l.act.toNat=n:=by omega
  have hv:=VE (decide (m= [l.val])) (!m.contains l.val)
  (repeat' ((conv=>whnf);first|with_reducible refine Idx.got hlo ha ?_|with_reducible refine Idx.got hhi ha ?_|with_reducible refine Idx.got hmo ha ?_|refine gA ?_|(refine gB ?_ ?_<;>intro h)|(refine gI ?_;intro x hx)|(refine gJ ?_;intro j x hj hx)|refine gV ?_|refine gC (wJ b _) ?_|refine gC (Nl m [l.val]) ?_|refine gC (uP m _) ?_|refine gC (QI _ _) ?_|intro _))<;>try (conv=>whnf)
  all_goals refine⟨?_,rfl,trivial⟩
  all_goals (rw [litValue,if_pos hd];simp only [han,List.getD_eq_getElem?_getD,hlo,hhi,hmo,Option.getD_some])
  all_goals first
   |(rw [if_pos (by assumption)];done)
   |(rw [if_neg (by assumption),if_pos (by assumption)];done)
   |(rw [if_neg (by assumption),if_neg (by assumption),if_pos (by assumption)];done)
   |(rw [if_neg (by assumption),if_neg (by assumption),if_neg (by assumption),if_pos (by assumption), ← TD];done)
   |(rw [if_neg (by assumption),if_neg (by assumption),if_neg (by assumption),if_neg (by assumption)];done)
theorem fQ (b:Dom) (l:Lit):Con 275 [.d b.av,.d l.av] (.d (i64 (litValue b l))):=by
 refine con Tryz.func275 rfl rfl Tryz.call275 rfl fun hwf=>?_
 cases hd:lF b l.act with
 |false=>
  (repeat' ((conv=>whnf);first|refine gA ?_|(refine gB ?_ ?_<;>intro h)|(refine gI ?_;intro x hx)|(refine gJ ?_;intro j x hj hx)|refine gC (nJ b _) ?_|intro _))<;>try (conv=>whnf)
  refine⟨?_,rfl,trivial⟩
  rw [litValue,if_neg (by simp [hd])]
 |true=>
  obtain⟨n,x,y,m,ha,hlo,hhi,hmo⟩:=tQ hd
  have han:l.act.toNat=n:=by omega
  have fin:∀c:Bool,c=decide (m= [l.val])→∀v:Int,(v=if l.kind=1 then valueOf (decide (x≥l.val)) (decide (y < l.val)) else if l.kind=2 then valueOf (decide (y≤l.val)) (decide (x > l.val)) else if l.kind=3 then valueOf c (!m.contains l.val) else if l.kind=4 then valueOf (!m.contains l.val) c else 1)→v=litValue b l:=by
   rintro c rfl v rfl
   rw [litValue,if_pos hd];simp only [han,List.getD_eq_getElem?_getD,hlo,hhi,hmo,Option.getD_some]
  by_cases h1:m.length=1
  ·obtain⟨w,rfl⟩:=List.length_eq_one_iff.1 h1
   (repeat' ((conv=>whnf);first|with_reducible refine Idx.got hlo ha ?_|with_reducible refine Idx.got hhi ha ?_|with_reducible refine Idx.got hmo ha ?_|(with_reducible refine Idx.got (l:=[w]) (k:=0) rfl (by rfl) ?_)|refine gA ?_|(refine gB ?_ ?_<;>intro h)|(refine gI ?_;intro x hx)|(refine gJ ?_;intro j x hj hx)|refine gC (nJ b _) ?_|refine gC (fC _ _) ?_|refine gC (BZ _ _) ?_|intro _))<;>try (conv=>whnf)
   all_goals first
    |(exfalso;simp at*;done)
    |(refine⟨?_,rfl,trivial⟩
      refine congrArg i64 (fin (decide (w=l.val)) (by simp) _ ?_)
      simp [*];done)
    |(obtain rfl:j=0:=by omega
      simp at hx
      subst hx
      refine⟨?_,rfl,trivial⟩
      refine congrArg i64 (fin (decide (w=l.val)) (by simp) _ ?_)
      simp [*];done)
  ·(repeat' ((conv=>whnf);first|(exfalso;omega)|with_reducible refine Idx.got hlo ha ?_|with_reducible refine Idx.got hhi ha ?_|with_reducible refine Idx.got hmo ha ?_|refine gA ?_|(refine gB ?_ ?_<;>intro h)|(refine gI ?_;intro x hx)|(refine gJ ?_;intro j x hj hx)|refine gC (nJ b _) ?_|refine gC (fC _ _) ?_|refine gC (BZ _ _) ?_|intro _))<;>try (conv=>whnf)
   all_goals first
    |(refine⟨?_,rfl,trivial⟩
      refine congrArg i64 (fin false (by simp;rintro rfl;simp at h1) _ ?_)
      simp [*];done)
def KQ (r:Int×Lit):RV:=.tup [.d (i64 r.1),.d r.2.av]
theorem jJ (b:Dom) (l:List Lit):Con 289 [.d b.av,.d (lits l)] (KQ (status b l)):=by
 refine con Tryz.func289 rfl rfl Tryz.call289 rfl fun hwf=>?_
 simp only [ARs.wf,AR.wf,AV.wf,AV.wfs,lm,lim] at hwf
 (repeat' ((conv=>whnf);first|refine gA ?_|(refine gB ?_ ?_<;>intro h)|(refine gI ?_;intro x hx)|(refine gJ ?_;intro j x hj hx)|refine gV ?_|intro _))<;>try (conv=>whnf)
 refine au [2,5,7,11,12] [2,5] [] ?_
 (conv=>whnf)
 refine ak.go ((Nat)×(Nat)×(Lit)) (fun⟨k,n,y⟩=>(k≤l.length)∧(n≤k)∧(bI b (l.drop k) n y=status b l)) (fun⟨k,n,y⟩=>[(13,.data (i64 k)),(6,.data (i64 n))]) (fun⟨k,n,y⟩=>[(7,(AV.cells y.av).map SV.data)]) (fun _=>[]) (fun⟨k,n,y⟩=>l.length - k) ⟨0,0,bG⟩ ?_ ?_
 ·exact⟨by omega,by omega,rfl⟩
 rintro⟨k,n,y⟩ ⟨hk,hn,hi⟩
 (repeat' ((conv=>whnf);first|refine gA ?_|(refine gB ?_ ?_<;>intro h)|(refine gI ?_;intro x hx)|(refine gJ ?_;intro j x hj hx)|refine gV ?_|refine gC (jI b _) ?_|intro _))<;>try (conv=>whnf)
 ·rw [ay hx,bI,if_pos h] at hi
  rw [← hi]
  exact fv
 ·refine nx ⟨k+1,n+1,x⟩ ?_
  rw [ay hx,bI,if_neg (by assumption),if_pos (by assumption)] at hi
  exact⟨by omega,by omega,hi⟩
 ·refine nx ⟨k+1,n,y⟩ ?_
  rw [ay hx,bI,if_neg (by assumption),if_neg (by assumption)] at hi
  exact⟨by omega,by omega,hi⟩
 all_goals rw [aG (by assumption),bI] at hi
 ·rw [if_pos h] at hi;rw [← hi];exact fv
 ·rw [if_neg (by assumption),if_pos (by omega)] at hi;rw [← hi];exact fv
 ·rw [if_neg (by assumption),if_neg (by omega)] at hi;rw [← hi];exact fv
theorem uU (b:Dom) (l:List Lit):Con 273 [.d b.av,.d (lits l)] (KQ (status b l)):=by
 refine con Tryz.func273 rfl rfl Tryz.call273 rfl fun hwf=>?_
 simp only [ARs.wf,AR.wf,AV.wf,AV.wfs,lm,lim] at hwf
 (repeat' ((conv=>whnf);first|refine gA ?_|(refine gB ?_ ?_<;>intro h)|(refine gI ?_;intro x hx)|(refine gJ ?_;intro j x hj hx)|refine gV ?_|intro _))<;>try (conv=>whnf)
 refine au [2,5,7,11,12] [2,5] [] ?_
 (conv=>whnf)
 refine ak.go ((Nat)×(Nat)×(Lit)) (fun⟨k,n,y⟩=>(k≤l.length)∧(n≤k)∧(bI b (l.drop k) n y=status b l)) (fun⟨k,n,y⟩=>[(13,.data (i64 k)),(6,.data (i64 n))]) (fun⟨k,n,y⟩=>[(7,(AV.cells y.av).map SV.data)]) (fun _=>[]) (fun⟨k,n,y⟩=>l.length - k) ⟨0,0,bG⟩ ?_ ?_
 ·exact⟨by omega,by omega,rfl⟩
 rintro⟨k,n,y⟩ ⟨hk,hn,hi⟩
 (repeat' ((conv=>whnf);first|refine gA ?_|(refine gB ?_ ?_<;>intro h)|(refine gI ?_;intro x hx)|(refine gJ ?_;intro j x hj hx)|refine gV ?_|refine gC (fQ b _) ?_|intro _))<;>try (conv=>whnf)
 ·rw [ay hx,bI,if_pos h] at hi
  rw [← hi]
  exact fv
 ·refine nx ⟨k+1,n+1,x⟩ ?_
  rw [ay hx,bI,if_neg (by assumption),if_pos (by assumption)] at hi
  exact⟨by omega,by omega,hi⟩
 ·refine nx ⟨k+1,n,y⟩ ?_
  rw [ay hx,bI,if_neg (by assumption),if_neg (by assumption)] at hi
  exact⟨by omega,by omega,hi⟩
 all_goals rw [aG (by assumption),bI] at hi
 ·rw [if_pos h] at hi;rw [← hi];exact fv
 ·rw [if_neg (by assumption),if_neg (by omega)] at hi;rw [← hi];exact fv
 ·rw [if_neg (by assumption),if_pos (by omega)] at hi;rw [← hi];exact fv
theorem gY (p:Proj) (n:Int):Con 222 [.d p.av,.d (i64 n)] (.d (.bool (iB p n))):=by
 refine con Tryz.func222 rfl rfl Tryz.call222 rfl fun hwf=>?_
 simp only [ARs.wf,AR.wf,AV.wf,AV.wfs,lm,lim] at hwf
 (repeat' ((conv=>whnf);first|refine gA ?_|(refine gN ?_ ?_<;>intro h hw)|(refine gB ?_ ?_<;>intro h)|refine gV ?_|refine gC (bC _ _ _) ?_|intro _))<;>try (conv=>whnf)
 refine⟨?_,rfl,trivial⟩
 simp [iB]
theorem Nn (p:Proj) (n:Int):Con 383 [.d p.av,.d (i64 n)] (.d (.bool (oZ p n))):=by
 refine con Tryz.func383 rfl rfl Tryz.call383 rfl fun hwf=>?_
 simp only [ARs.wf,AR.wf,AV.wf,AV.wfs,lm,lim] at hwf
 (repeat' ((conv=>whnf);first|refine gA ?_|(refine gN ?_ ?_<;>intro h hw)|(refine gB ?_ ?_<;>intro h)|refine gV ?_|refine gC (bC _ _ _) ?_|intro _))<;>try (conv=>whnf)
 refine⟨?_,rfl,trivial⟩
 simp [oZ]
theorem xP {p:Proj} {a:Int} (h:iB p a=true):∃(n:Nat) (x:aL),a=n∧p.aU[n]? =some x:=by
 have hn:=within_iff.1 h
 exact⟨a.toNat,p.aU[a.toNat]'(by omega),by omega,by simp⟩
theorem lZ (p:Proj) (r:Int):Con 319 [.d p.av,.d (i64 r)] (.d (.bool (iL p r))):=by
 refine con Tryz.func319 rfl rfl Tryz.call319 rfl fun hwf=>?_
 simp only [ARs.wf,AR.wf,AV.wf,AV.wfs,lm,lim] at hwf
 cases hr:iB p r with
 |false=>
  (repeat' ((conv=>whnf);first|refine gA ?_|(refine gB ?_ ?_<;>intro h)|(refine gI ?_;intro x hx)|(refine gJ ?_;intro j x hj hx)|refine gC (gY p _) ?_|intro _))<;>try (conv=>whnf)
  refine⟨?_,rfl,trivial⟩
  simp [iL,hr]
 |true=>
  obtain⟨n,x,ha,hx⟩:=xP hr
  have e:r.toNat=n:=by omega
  (repeat' ((conv=>whnf);first|with_reducible refine Idx.got hx ha ?_|refine gA ?_|(refine gB ?_ ?_<;>intro h)|(refine gI ?_;intro x hx)|(refine gJ ?_;intro j x hj hx)|refine gC (gY p _) ?_|intro _))<;>try (conv=>whnf)
  refine⟨?_,rfl,trivial⟩
  simp [iL,hr,e,List.getD_eq_getElem?_getD,hx]
theorem tX (p:Proj) (r:Int):Con 304 [.d p.av,.d (i64 r)] (.d (.bool (iL p r))):=by
 refine con Tryz.func304 rfl rfl Tryz.call304 rfl fun hwf=>?_
 simp only [ARs.wf,AR.wf,AV.wf,AV.wfs,lm,lim] at hwf
 cases hr:iB p r with
 |false=>
  have hr':within r 0 (((p.aU.map aL.av).length:Int) - 1)=false:=by rw [List.length_map];exact hr
  (repeat' ((conv=>whnf);first|refine gA ?_|(refine gN ?_ ?_<;>intro h hw)|(refine gB ?_ ?_<;>intro h)|(refine gI ?_;intro x hx)|(refine gJ ?_;intro j x hj hx)|refine gV ?_|refine gC (cB _ _ _) ?_|intro _))<;>try (conv=>whnf)
  refine⟨?_,rfl,trivial⟩
  simp [iL,hr]
 |true=>
  have hr':within r 0 (((p.aU.map aL.av).length:Int) - 1)=true:=by rw [List.length_map];exact hr
  obtain⟨n,x,ha,hx⟩:=xP hr
  have e:r.toNat=n:=by omega
  (repeat' ((conv=>whnf);first|with_reducible refine Idx.got hx ha ?_|refine gA ?_|(refine gN ?_ ?_<;>intro h hw)|(refine gB ?_ ?_<;>intro h)|(refine gI ?_;intro x hx)|(refine gJ ?_;intro j x hj hx)|refine gV ?_|refine gC (cB _ _ _) ?_|intro _))<;>try (conv=>whnf)
  refine⟨?_,rfl,trivial⟩
  simp [iL,hr,e,List.getD_eq_getElem?_getD,hx]
theorem eH (p:Proj) (r:Rul) (hp:p.fine):Con 364 [.d p.av,.d r.av] (.d (.bool (iC p r))):=by
 refine con Tryz.func364 rfl rfl Tryz.call364 rfl fun hwf=>?_
 simp only [ARs.wf,AR.wf,AV.wf,AV.wfs,lm,lim] at hwf
 (repeat' ((conv=>whnf);first|refine gA ?_|(refine gN ?_ ?_<;>intro h hw)|(refine gB ?_ ?_<;>intro h)|refine gV ?_|refine gC (dA p hp) ?_|refine gC (gX p _) ?_|refine gC (gY p _) ?_|refine gC (Nn p _) ?_|refine gC (lZ p _) ?_|refine gC (lV _) ?_|refine gC (bC _ _ _) ?_|intro _))<;>try (conv=>whnf)
 all_goals refine⟨?_,rfl,trivial⟩
 all_goals (simp [iC, *];done)
theorem jK (p:Proj) (r:Rul) (hp:p.fine):Con 349 [.d p.av,.d r.av] (.d (.bool (iC p r))):=by
 refine con Tryz.func349 rfl rfl Tryz.call349 rfl fun hwf=>?_
 simp only [ARs.wf,AR.wf,AV.wf,AV.wfs,lm,lim] at hwf
 (repeat' ((conv=>whnf);first|refine gA ?_|(refine gN ?_ ?_<;>intro h hw)|(refine gB ?_ ?_<;>intro h)|refine gV ?_|refine gC (dO p hp) ?_|refine gC (tX p _) ?_|refine gC (cB _ _ _) ?_|intro _))<;>try (conv=>whnf)
 all_goals refine⟨?_,rfl,trivial⟩
 all_goals (simp [iC,dz,iB,oZ,dw, *];done)
end Go.Proofs.YtglikcnmgnlejaaGreat.Abs
