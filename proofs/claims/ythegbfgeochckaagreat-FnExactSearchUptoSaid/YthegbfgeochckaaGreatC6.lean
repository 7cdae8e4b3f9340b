/- Part of a proof. -/
import Derived.Test.YthegbfgeochckaaGreatC5
set_option linter.all false
set_option maxRecDepth 20000
set_option maxHeartbeats 0
namespace Go.Proofs.YthegbfgeochckaaGreat.Abs
open Go.Proofs
def sameAt (a b:List Int) (i:Nat):Bool:=decide (a.getD i 0=b.getD i 0)
theorem Zt {a b:List Int} (h:a.length=b.length):decide (a=b)=Es a.length (sameAt a b):=by
 rw [Bool.eq_iff_iff,decide_eq_true_eq,dB]
 constructor
 ·rintro rfl i hi;simp [sameAt]
 ·intro hh
  refine List.ext_getElem h fun i h1 h2=>?_
  have:=hh i h1
  simpa [sameAt,List.getD_eq_getElem?_getD,List.getElem?_eq_getElem h1,List.getElem?_eq_getElem h2] using this
theorem slices_Equal_int (a b:List Int):Con 336 [.d (ints a),.d (ints b)] (.d (.bool (decide (a=b)))):=by
 refine con Tryz.func336 rfl rfl Tryz.call336 rfl fun hwf=>?_
 simp only [ARs.wf,AR.wf,AV.wf,AV.wfs,lm,lim] at hwf
 by_cases hl:a.length=b.length
 ·rw [Zt hl]
  (repeat' ((conv=>whnf);first|(exfalso;omega)|refine gA ?_|(refine gB ?_ ?_<;>intro h)))<;>try (conv=>whnf)
  refine ay [0,1,12] [] [] ?_
  (conv=>whnf)
  refine au.go ((Nat)) (fun k=>(k<=a.length)/\(∀i,i < k->sameAt a b i=true)) (fun k=>[(13,.data (i64 k))]) lE lE (fun k=>a.length - k) (0) ?_ ?_
  ·exact⟨by omega,by omega⟩
  rintro k ⟨hk,hi⟩
  (repeat' ((conv=>whnf);first|refine gA ?_|(refine gB ?_ ?_<;>intro h)|(refine gI ?_;intro x hx)))<;>try (conv=>whnf)
  all_goals first
   |(refine⟨?_,rfl,trivial⟩;rw [fT k (by omega) (by simp [sameAt,List.getD_eq_getElem?_getD, *])];done)
   |(refine nx (k+1) ?_
     exact⟨by omega,eY hi (by simp [sameAt,List.getD_eq_getElem?_getD, *])⟩)
   |(refine⟨?_,rfl,trivial⟩;rw [dB.2 fun i hh=>hi i (by omega)])
 ·(repeat' ((conv=>whnf);first|(exfalso;omega)|refine gA ?_|(refine gB ?_ ?_<;>intro h)))<;>try (conv=>whnf)
  all_goals first
   |(exfalso;omega)
   |(refine⟨?_,rfl,trivial⟩;simp;intro e;rw [e] at hl;exact hl rfl)
theorem QO (a b:List Int):Con 286 [.d (ints a),.d (ints b)] (.d (.bool (decide (a=b)))):=by
 refine con Tryz.func286 rfl rfl Tryz.call286 rfl fun hwf=>?_
 (repeat' ((conv=>whnf);first|refine gA ?_|refine gC (slices_Equal_int a b) ?_|intro _))
 exact⟨rfl,rfl,trivial⟩
theorem UM (a b:Bool):Con 285 [.d (.bool a),.d (.bool b)] (.d (i64 (valueOf a b))):=by
 refine con Tryz.func285 rfl rfl Tryz.call285 rfl fun hwf=>?_
 cases a<;>cases b
 all_goals ((repeat' ((conv=>whnf);first|refine gA ?_)))
 all_goals exact⟨rfl,rfl,trivial⟩
theorem Fg (a b:Bool):Con 265 [.d (.bool a),.d (.bool b)] (.d (i64 (valueOf a b))):=by
 refine con Tryz.func265 rfl rfl Tryz.call265 rfl fun hwf=>?_
 cases a<;>cases b
 all_goals ((repeat' ((conv=>whnf);first|refine gA ?_)))
 all_goals exact⟨rfl,rfl,trivial⟩
theorem Zu (a b:Bool): -1<=valueOf a b/\valueOf a b<=1:=by cases a<;>cases b<;>simp [valueOf]
theorem Xp {m:List Int} {v:Int}:0 - valueOf (decide (m= [v])) (!m.contains v)=valueOf (!m.contains v) (decide (m= [v])):=by
 by_cases h:m= [v]
 ·subst h;simp [valueOf]
 ·cases hc:m.contains v<;>simp [valueOf,h]
theorem rG (b:Dom) (l:Lit):Con 233 [.d b.av,.d l.av] (.d (i64 (litValue b l))):=by
 refine con Tryz.func233 rfl rfl Tryz.call233 rfl fun hwf=>?_
 cases hd:nY b l.act with
 |false=>
  (repeat' ((conv=>whnf);first|refine gA ?_|refine gC (II b _) ?_|intro _))
  refine⟨?_,rfl,trivial⟩
  rw [litValue,if_neg (by simp [hd])]
 |true=>
  obtain⟨n,x,y,m,ha,hlo,hhi,hmo⟩:=Af hd
  have han:l.act.toNat=n:=by omega
  have hv:=Zu (decide (m= [l.val])) (!m.contains l.val)
  (repeat' ((conv=>whnf);first|(with_reducible first|refine Idx.got hlo ha ?_|refine Idx.got hhi ha ?_|refine Idx.got hmo ha ?_)|refine gA ?_|(refine gB ?_ ?_<;>intro h)|refine gC (II b _) ?_|refine gC (QO m [l.val]) ?_|refine gC (xL m _) ?_|refine gC (UM _ _) ?_|intro _))
  all_goals refine⟨?_,rfl,trivial⟩
  all_goals (rw [litValue,if_pos hd];simp only [han,List.getD_eq_getElem?_getD,hlo,hhi,hmo,Option.getD_some])
  all_goals first
   |(rw [if_pos (by assumption)];done)
   |(rw [if_neg (by assumption),if_pos (by assumption)];done)
   |(rw [if_neg (by assumption),if_neg (by assumption),if_pos (by assumption)];done)
   |(rw [if_neg (by assumption),if_neg (by assumption),if_neg (by assumption),if_pos (by assumption), <- Xp];done)
   |(rw [if_neg (by assumption),if_neg (by assumption),if_neg (by assumption),if_neg (by assumption)];done)
theorem rH (b:Dom) (l:Lit):Con 211 [.d b.av,.d l.av] (.d (i64 (litValue b l))):=by
 refine con Tryz.func211 rfl rfl Tryz.call211 rfl fun hwf=>?_
 cases hd:nY b l.act with
 |false=>
  (repeat' ((conv=>whnf);first|refine gA ?_|refine gC (qd b _) ?_|intro _))
  refine⟨?_,rfl,trivial⟩
  rw [litValue,if_neg (by simp [hd])]
 |true=>
  obtain⟨n,x,y,m,ha,hlo,hhi,hmo⟩:=Af hd
  have han:l.act.toNat=n:=by omega
  have fin:∀c:Bool,c=decide (m= [l.val])->∀v:Int,(v=if l.kind=1 then valueOf (decide (x>=l.val)) (decide (y < l.val)) else if l.kind=2 then valueOf (decide (y<=l.val)) (decide (x > l.val)) else if l.kind=3 then valueOf c (!m.contains l.val) else if l.kind=4 then valueOf (!m.contains l.val) c else 1)->v=litValue b l:=by
   rintro c rfl v rfl
   rw [litValue,if_pos hd];simp only [han,List.getD_eq_getElem?_getD,hlo,hhi,hmo,Option.getD_some]
  by_cases h1:m.length=1
  ·obtain⟨w,rfl⟩:=List.length_eq_one_iff.1 h1
   (repeat' ((conv=>whnf);first|(with_reducible first|refine Idx.got hlo ha ?_|refine Idx.got hhi ha ?_|refine Idx.got hmo ha ?_)|refine gA ?_|(refine gB ?_ ?_<;>intro h)|(refine gJ ?_;intro j x hj hx)|refine gC (qd b _) ?_|refine gC (gT _ _) ?_|refine gC (Fg _ _) ?_|intro _))
   all_goals first
    |(exfalso;simp at*;done)
    |(refine⟨?_,rfl,trivial⟩
      refine congrArg i64 (fin (decide (w=l.val)) (by simp) _ ?_)
      simp [*];done)
    |(obtain rfl:j=0:=by omega
      simp at hx
      subst hx
      refine⟨?_,rfl,trivial⟩
      refine congrArg i64 (fin (decide (w=l.val)) (by simp) _ ?_)
      simp [*];done)
  ·(repeat' ((conv=>whnf);first|(exfalso;omega)|(with_reducible first|refine Idx.got hlo ha ?_|refine Idx.got hhi ha ?_|refine Idx.got hmo ha ?_)|refine gA ?_|(refine gB ?_ ?_<;>intro h)|refine gC (qd b _) ?_|refine gC (gT _ _) ?_|refine gC (Fg _ _) ?_|intro _))
   all_goals first
    |(refine⟨?_,rfl,trivial⟩
      refine congrArg i64 (fin false (by simp;rintro rfl;simp at h1) _ ?_)
      simp [*];done)
def SL (r:Int×Lit):RV:=.tup [.d (i64 r.1),.d r.2.av]
theorem nR (b:Dom) (l:List Lit):Con 161 [.d b.av,.d (lits l)] (SL (status b l)):=by
 refine con Tryz.func161 rfl rfl Tryz.call161 rfl fun hwf=>?_
 simp only [ARs.wf,AR.wf,AV.wf,AV.wfs,lm,lim] at hwf
 try (conv=>whnf)
 refine ay [2,5,7,11,12] [2,5] [] ?_
 (conv=>whnf)
 refine au.go ((Nat)×(Nat)×(Lit)) (fun⟨k,n,y⟩=>(k<=l.length)/\(n<=k)/\(bR b (l.drop k) n y=status b l)) (fun⟨k,n,y⟩=>[(13,.data (i64 k)),(6,.data (i64 n))]) (fun⟨k,n,y⟩=>[(7,(AV.cells y.av).map SV.data)]) lE (fun⟨k,n,y⟩=>l.length - k) ⟨0,0,bL⟩ ?_ ?_
 ·exact⟨by omega,by omega,rfl⟩
 rintro⟨k,n,y⟩ ⟨hk,hn,hi⟩
 (repeat' ((conv=>whnf);first|refine gA ?_|(refine gB ?_ ?_<;>intro h)|(refine gI ?_;intro x hx)|refine gC (rG b _) ?_|intro _))<;>try (conv=>whnf)
 ·rw [aA hx,bR,if_pos h] at hi
  rw [<- hi]
  exact fv
 ·refine nx ⟨k+1,n+1,x⟩ ?_
  rw [aA hx,bR,if_neg (by assumption),if_pos (by assumption)] at hi
  exact⟨by omega,by omega,hi⟩
 ·refine nx ⟨k+1,n,y⟩ ?_
  rw [aA hx,bR,if_neg (by assumption),if_neg (by assumption)] at hi
  exact⟨by omega,by omega,hi⟩
 all_goals rw [aG (by assumption),bR] at hi
 ·rw [if_pos h] at hi;rw [<- hi];exact fv
 ·rw [if_neg (by assumption),if_pos (by omega)] at hi;rw [<- hi];exact fv
 ·rw [if_neg (by assumption),if_neg (by omega)] at hi;rw [<- hi];exact fv
theorem xQ (b:Dom) (l:List Lit):Con 199 [.d b.av,.d (lits l)] (SL (status b l)):=by
 refine con Tryz.func199 rfl rfl Tryz.call199 rfl fun hwf=>?_
 simp only [ARs.wf,AR.wf,AV.wf,AV.wfs,lm,lim] at hwf
 try (conv=>whnf)
 refine ay [2,5,7,11,12] [2,5] [] ?_
 (conv=>whnf)
 refine au.go ((Nat)×(Nat)×(Lit)) (fun⟨k,n,y⟩=>(k<=l.length)/\(n<=k)/\(bR b (l.drop k) n y=status b l)) (fun⟨k,n,y⟩=>[(13,.data (i64 k)),(6,.data (i64 n))]) (fun⟨k,n,y⟩=>[(7,(AV.cells y.av).map SV.data)]) lE (fun⟨k,n,y⟩=>l.length - k) ⟨0,0,bL⟩ ?_ ?_
 ·exact⟨by omega,by omega,rfl⟩
 rintro⟨k,n,y⟩ ⟨hk,hn,hi⟩
 (repeat' ((conv=>whnf);first|refine gA ?_|(refine gB ?_ ?_<;>intro h)|(refine gI ?_;intro x hx)|refine gC (rH b _) ?_|intro _))<;>try (conv=>whnf)
 ·rw [aA hx,bR,if_pos h] at hi
  rw [<- hi]
  exact fv
 ·refine nx ⟨k+1,n+1,x⟩ ?_
  rw [aA hx,bR,if_neg (by assumption),if_pos (by assumption)] at hi
  exact⟨by omega,by omega,hi⟩
 ·refine nx ⟨k+1,n,y⟩ ?_
  rw [aA hx,bR,if_neg (by assumption),if_neg (by assumption)] at hi
  exact⟨by omega,by omega,hi⟩
 all_goals rw [aG (by assumption),bR] at hi
 ·rw [if_pos h] at hi;rw [<- hi];exact fv
 ·rw [if_neg (by assumption),if_neg (by omega)] at hi;rw [<- hi];exact fv
 ·rw [if_neg (by assumption),if_pos (by omega)] at hi;rw [<- hi];exact fv
theorem iR (p:Proj) (n:Int):Con 340 [.d p.av,.d (i64 n)] (.d (.bool (fM p n))):=by
 refine con Tryz.func340 rfl rfl Tryz.call340 rfl fun hwf=>?_
 simp only [ARs.wf,AR.wf,AV.wf,AV.wfs,lm,lim] at hwf
 (repeat' ((conv=>whnf);first|refine gA ?_|refine gC (bO _ _ _) ?_|intro _))<;>try (conv=>whnf)
 refine⟨?_,rfl,trivial⟩
 simp [fM]
theorem Fh (p:Proj) (n:Int):Con 341 [.d p.av,.d (i64 n)] (.d (.bool (kV p n))):=by
 refine con Tryz.func341 rfl rfl Tryz.call341 rfl fun hwf=>?_
 simp only [ARs.wf,AR.wf,AV.wf,AV.wfs,lm,lim] at hwf
 (repeat' ((conv=>whnf);first|refine gA ?_|refine gC (bO _ _ _) ?_|intro _))<;>try (conv=>whnf)
 refine⟨?_,rfl,trivial⟩
 simp [kV]
theorem Ai {p:Proj} {a:Int} (h:fM p a=true):∃(n:Nat) (x:aK),a=n/\p.aS[n]? =some x:=by
 have hn:=within_iff.1 h
 exact⟨a.toNat,p.aS[a.toNat]'(by omega),by omega,by simp⟩
theorem ou (p:Proj) (r:Int):Con 302 [.d p.av,.d (i64 r)] (.d (.bool (gu p r))):=by
 refine con Tryz.func302 rfl rfl Tryz.call302 rfl fun hwf=>?_
 cases hr:fM p r with
 |false=>
  (repeat' ((conv=>whnf);first|refine gA ?_|refine gC (iR p _) ?_|intro _))
  refine⟨?_,rfl,trivial⟩
  simp [gu,hr]
 |true=>
  obtain⟨n,x,ha,hx⟩:=Ai hr
  have e:r.toNat=n:=by omega
  (repeat' ((conv=>whnf);first|with_reducible refine Idx.got hx ha ?_|refine gA ?_|refine gC (iR p _) ?_|intro _))
  refine⟨?_,rfl,trivial⟩
  simp [gu,hr,e,List.getD_eq_getElem?_getD,hx]
theorem ow (p:Proj) (r:Int):Con 261 [.d p.av,.d (i64 r)] (.d (.bool (gu p r))):=by
 refine con Tryz.func261 rfl rfl Tryz.call261 rfl fun hwf=>?_
 simp only [ARs.wf,AR.wf,AV.wf,AV.wfs,lm,lim] at hwf
 cases hr:fM p r with
 |false=>
  have hr':within r 0 (((p.aS.map aK.av).length:Int) - 1)=false:=by rw [List.length_map];exact hr
  (repeat' ((conv=>whnf);first|refine gA ?_|refine gC (dG _ _ _) ?_|intro _))<;>try (conv=>whnf)
  refine⟨?_,rfl,trivial⟩
  simp [gu,hr]
 |true=>
  have hr':within r 0 (((p.aS.map aK.av).length:Int) - 1)=true:=by rw [List.length_map];exact hr
  obtain⟨n,x,ha,hx⟩:=Ai hr
  have e:r.toNat=n:=by omega
  (repeat' ((conv=>whnf);first|with_reducible refine Idx.got hx ha ?_|refine gA ?_|refine gC (dG _ _ _) ?_|intro _))<;>try (conv=>whnf)
  refine⟨?_,rfl,trivial⟩
  simp [gu,hr,e,List.getD_eq_getElem?_getD,hx]
theorem fF (p:Proj) (r:Rul) (hp:p.fine):Con 290 [.d p.av,.d r.av] (.d (.bool (iZ p r))):=by
 refine con Tryz.func290 rfl rfl Tryz.call290 rfl fun hwf=>?_
 simp only [ARs.wf,AR.wf,AV.wf,AV.wfs,lm,lim] at hwf
 (repeat' ((conv=>whnf);first|refine gA ?_|(refine gN ?_ ?_<;>intro h hw)|(refine gB ?_ ?_<;>intro h)|refine gC (dJ p hp) ?_|refine gC (iQ p _) ?_|refine gC (iR p _) ?_|refine gC (Fh p _) ?_|refine gC (ou p _) ?_|refine gC (mK _) ?_|refine gC (bO _ _ _) ?_|intro _))<;>try (conv=>whnf)
 all_goals refine⟨?_,rfl,trivial⟩
 all_goals (simp [iZ, *];done)
theorem kW (p:Proj) (r:Rul) (hp:p.fine):Con 262 [.d p.av,.d r.av] (.d (.bool (iZ p r))):=by
 refine con Tryz.func262 rfl rfl Tryz.call262 rfl fun hwf=>?_
 simp only [ARs.wf,AR.wf,AV.wf,AV.wfs,lm,lim] at hwf
 (repeat' ((conv=>whnf);first|refine gA ?_|(refine gN ?_ ?_<;>intro h hw)|(refine gB ?_ ?_<;>intro h)|refine gC (dP p hp) ?_|refine gC (ow p _) ?_|refine gC (dG _ _ _) ?_|intro _))<;>try (conv=>whnf)
 all_goals refine⟨?_,rfl,trivial⟩
 all_goals (simp [iZ,dI,fM,kV,cu, *];done)
end Go.Proofs.YthegbfgeochckaaGreat.Abs
