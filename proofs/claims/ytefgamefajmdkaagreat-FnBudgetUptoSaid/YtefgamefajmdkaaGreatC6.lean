/- Contracts: literals in domains, clauses in domains. -/
import Derived.Test.YtefgamefajmdkaaGreatC5
set_option linter.all false
set_option maxRecDepth 20000
set_option maxHeartbeats 0
namespace Go.Proofs.YtefgamefajmdkaaGreat.Abs
open Go.Proofs
def sameAt (a b:List Int) (i:Nat):Bool:=decide (a.getD i 0=b.getD i 0)
theorem PS {a b:List Int} (h:a.length=b.length):decide (a=b)=Ab a.length (sameAt a b):=by
 rw [Bool.eq_iff_iff,decide_eq_true_eq,dO]
 constructor
 ·rintro rfl i hi;simp [sameAt]
 ·intro hh
  refine List.ext_getElem h fun i h1 h2=>?_
  have:=hh i h1
  simpa [sameAt,List.getD_eq_getElem?_getD,List.getElem?_eq_getElem h1,List.getElem?_eq_getElem h2] using this
theorem slices_Equal_int (a b:List Int):Con 59 [.d (ints a),.d (ints b)] (.d (.bool (decide (a=b)))):=by
 refine con Tryz.func59 rfl rfl Tryz.call59 rfl fun hwf=>?_
 simp only [ARs.wf,AR.wf,AV.wf,AV.wfs,lm,lim] at hwf
 by_cases hl:a.length=b.length
 ·rw [PS hl]
  (repeat' ((conv=>whnf);first|(exfalso;omega)|refine gA ?_|(refine gB ?_ ?_<;>intro h)|(refine gI ?_;intro x hx)|(refine gJ ?_;intro j x hj hx)|refine gV ?_|intro _))<;>try (conv=>whnf)
  refine aA [0,1,12] [] [] ?_
  (conv=>whnf)
  refine ay.go ((Nat)) (fun k=>(k≤a.length)∧(∀i,i < k→sameAt a b i=true)) (fun k=>[(13,.data (i64 k))]) (fun _=>[]) (fun _=>[]) (fun k=>a.length - k) (0) ?_ ?_
  ·exact⟨by omega,by omega⟩
  rintro k ⟨hk,hi⟩
  (repeat' ((conv=>whnf);first|refine gA ?_|(refine gB ?_ ?_<;>intro h)|(refine gI ?_;intro x hx)|(refine gJ ?_;intro j x hj hx)|refine gV ?_|intro _))<;>try (conv=>whnf)
  all_goals first
   |(refine⟨?_,rfl,trivial⟩;rw [jM k (by omega) (by simp [sameAt,List.getD_eq_getElem?_getD, *])];done)
   |(refine nx (k+1) ?_
     exact⟨by omega,jN hi (by simp [sameAt,List.getD_eq_getElem?_getD, *])⟩)
   |(refine⟨?_,rfl,trivial⟩;rw [dO.2 fun i hh=>hi i (by omega)])
 ·(repeat' ((conv=>whnf);first|(exfalso;omega)|refine gA ?_|(refine gB ?_ ?_<;>intro h)|(refine gI ?_;intro x hx)|(refine gJ ?_;intro j x hj hx)|refine gV ?_|intro _))<;>try (conv=>whnf)
  all_goals first
   |(exfalso;omega)
   |(refine⟨?_,rfl,trivial⟩;simp;intro e;rw [e] at hl;exact hl rfl)
theorem Io (a b:List Int):Con 184 [.d (ints a),.d (ints b)] (.d (.bool (decide (a=b)))):=by
 refine con Tryz.func184 rfl rfl Tryz.call184 rfl fun hwf=>?_
 (repeat' ((conv=>whnf);first|refine gA ?_|(refine gB ?_ ?_<;>intro h)|refine gC (slices_Equal_int a b) ?_|intro _))<;>try (conv=>whnf)
 exact⟨rfl,rfl,trivial⟩
theorem Lv (a b:Bool):Con 183 [.d (.bool a),.d (.bool b)] (.d (i64 (valueOf a b))):=by
 refine con Tryz.func183 rfl rfl Tryz.call183 rfl fun hwf=>?_
 cases a<;>cases b
 all_goals ((repeat' ((conv=>whnf);first|refine gA ?_|(refine gB ?_ ?_<;>intro h)|intro _))<;>try (conv=>whnf))
 all_goals exact⟨rfl,rfl,trivial⟩
theorem PU (a b:Bool): -1≤valueOf a b∧valueOf a b≤1:=by cases a<;>cases b<;>simp [valueOf]
theorem Oa {m:List Int} {v:Int}:0 - valueOf (decide (m= [v])) (!m.contains v)=valueOf (!m.contains v) (decide (m= [v])):=by
 by_cases h:m= [v]
 ·subst h;simp [valueOf]
 ·cases hc:m.contains v<;>simp [valueOf,h]
theorem lQ (b:Dom) (l:Lit):Con 119 [.d b.av,.d l.av] (.d (i64 (litValue b l))):=by
 refine con Tryz.func119 rfl rfl Tryz.call119 rfl fun hwf=>?_
 cases hd:nM b l.act with
 |false=>
  (repeat' ((conv=>whnf);first|refine gA ?_|(refine gB ?_ ?_<;>intro h)|(refine gI ?_;intro x hx)|(refine gJ ?_;intro j x hj hx)|refine gV ?_|refine gC (Ak b _) ?_|intro _))<;>try (conv=>whnf)
  refine⟨?_,rfl,trivial⟩
  rw [litValue,if_neg (by simp [hd])]
 |true=>
  obtain⟨n,x,y,m,ha,hlo,hhi,hmo⟩:=FP hd
  have han:l.act.toNat=n:=by omega
  have hv:=PU (decide (m= [l.val])) (!m.contains l.val)
  (repeat' ((conv=>whnf);first|with_reducible refine Idx.got hlo ha ?_|with_reducible refine Idx.got hhi ha ?_|with_reducible refine Idx.got hmo ha ?_|refine gA ?_|(refine gB ?_ ?_<;>intro h)|(refine gI ?_;intro x hx)|(refine gJ ?_;intro j x hj hx)|refine gV ?_|refine gC (Ak b _) ?_|refine gC (Io m [l.val]) ?_|refine gC (qD m _) ?_|refine gC (Lv _ _) ?_|intro _))<;>try (conv=>whnf)
  all_goals refine⟨?_,rfl,trivial⟩
  all_goals (rw [litValue,if_pos hd];simp only [han,List.getD_eq_getElem?_getD,hlo,hhi,hmo,Option.getD_some])
  all_goals first
   |(rw [if_pos (by assumption)];done)
   |(rw [if_neg (by assumption),if_pos (by assumption)];done)
   |(rw [if_neg (by assumption),if_neg (by assumption),if_pos (by assumption)];done)
   |(rw [if_neg (by assumption),if_neg (by assumption),if_neg (by assumption),if_pos (by assumption), ← Oa];done)
   |(rw [if_neg (by assumption),if_neg (by assumption),if_neg (by assumption),if_neg (by assumption)];done)
def Vv (r:Int×Lit):RV:=.tup [.d (i64 r.1),.d r.2.av]
theorem jo (b:Dom) (l:List Lit):Con 47 [.d b.av,.d (lits l)] (Vv (status b l)):=by
 refine con Tryz.func47 rfl rfl Tryz.call47 rfl fun hwf=>?_
 simp only [ARs.wf,AR.wf,AV.wf,AV.wfs,lm,lim] at hwf
 (repeat' ((conv=>whnf);first|refine gA ?_|(refine gB ?_ ?_<;>intro h)|(refine gI ?_;intro x hx)|(refine gJ ?_;intro j x hj hx)|refine gV ?_|intro _))<;>try (conv=>whnf)
 refine aA [2,5,7,11,12] [2,5] [] ?_
 (conv=>whnf)
 refine ay.go ((Nat)×(Nat)×(Lit)) (fun⟨k,n,y⟩=>(k≤l.length)∧(n≤k)∧(bX b (l.drop k) n y=status b l)) (fun⟨k,n,y⟩=>[(13,.data (i64 k)),(6,.data (i64 n))]) (fun⟨k,n,y⟩=>[(7,(AV.cells y.av).map SV.data)]) (fun _=>[]) (fun⟨k,n,y⟩=>l.length - k) ⟨0,0,fB⟩ ?_ ?_
 ·exact⟨by omega,by omega,rfl⟩
 rintro⟨k,n,y⟩ ⟨hk,hn,hi⟩
 (repeat' ((conv=>whnf);first|refine gA ?_|(refine gB ?_ ?_<;>intro h)|(refine gI ?_;intro x hx)|(refine gJ ?_;intro j x hj hx)|refine gV ?_|refine gC (lQ b _) ?_|intro _))<;>try (conv=>whnf)
 ·rw [aC hx,bX,if_pos h] at hi
  rw [← hi]
  exact fv
 ·refine nx ⟨k+1,n+1,x⟩ ?_
  rw [aC hx,bX,if_neg (by assumption),if_pos (by assumption)] at hi
  exact⟨by omega,by omega,hi⟩
 ·refine nx ⟨k+1,n,y⟩ ?_
  rw [aC hx,bX,if_neg (by assumption),if_neg (by assumption)] at hi
  exact⟨by omega,by omega,hi⟩
 all_goals rw [aU (by assumption),bX] at hi
 ·rw [if_pos h] at hi;rw [← hi];exact fv
 ·rw [if_neg (by assumption),if_pos (by omega)] at hi;rw [← hi];exact fv
 ·rw [if_neg (by assumption),if_neg (by omega)] at hi;rw [← hi];exact fv
theorem eO (p:Proj) (n:Int):Con 236 [.d p.av,.d (i64 n)] (.d (.bool (fI p n))):=by
 refine con Tryz.func236 rfl rfl Tryz.call236 rfl fun hwf=>?_
 simp only [ARs.wf,AR.wf,AV.wf,AV.wfs,lm,lim] at hwf
 (repeat' ((conv=>whnf);first|refine gA ?_|(refine gN ?_ ?_<;>intro h hw)|(refine gB ?_ ?_<;>intro h)|refine gV ?_|refine gC (aO _ _ _) ?_|intro _))<;>try (conv=>whnf)
 refine⟨?_,rfl,trivial⟩
 simp [fI]
theorem xU (p:Proj) (n:Int):Con 237 [.d p.av,.d (i64 n)] (.d (.bool (jy p n))):=by
 refine con Tryz.func237 rfl rfl Tryz.call237 rfl fun hwf=>?_
 simp only [ARs.wf,AR.wf,AV.wf,AV.wfs,lm,lim] at hwf
 (repeat' ((conv=>whnf);first|refine gA ?_|(refine gN ?_ ?_<;>intro h hw)|(refine gB ?_ ?_<;>intro h)|refine gV ?_|refine gC (aO _ _ _) ?_|intro _))<;>try (conv=>whnf)
 refine⟨?_,rfl,trivial⟩
 simp [jy]
theorem yV {p:Proj} {a:Int} (h:fI p a=true):∃(n:Nat) (x:bI),a=n∧p.aW[n]? =some x:=by
 have hn:=within_iff.1 h
 exact⟨a.toNat,p.aW[a.toNat]'(by omega),by omega,by simp⟩
theorem jF (p:Proj) (r:Int):Con 228 [.d p.av,.d (i64 r)] (.d (.bool (iC p r))):=by
 refine con Tryz.func228 rfl rfl Tryz.call228 rfl fun hwf=>?_
 simp only [ARs.wf,AR.wf,AV.wf,AV.wfs,lm,lim] at hwf
 cases hr:fI p r with
 |false=>
  (repeat' ((conv=>whnf);first|refine gA ?_|(refine gB ?_ ?_<;>intro h)|(refine gI ?_;intro x hx)|(refine gJ ?_;intro j x hj hx)|refine gC (eO p _) ?_|intro _))<;>try (conv=>whnf)
  refine⟨?_,rfl,trivial⟩
  simp [iC,hr]
 |true=>
  obtain⟨n,x,ha,hx⟩:=yV hr
  have e:r.toNat=n:=by omega
  (repeat' ((conv=>whnf);first|with_reducible refine Idx.got hx ha ?_|refine gA ?_|(refine gB ?_ ?_<;>intro h)|(refine gI ?_;intro x hx)|(refine gJ ?_;intro j x hj hx)|refine gC (eO p _) ?_|intro _))<;>try (conv=>whnf)
  refine⟨?_,rfl,trivial⟩
  simp [iC,hr,e,List.getD_eq_getElem?_getD,hx]
theorem cZ (p:Proj) (r:Rul) (hp:p.fine):Con 190 [.d p.av,.d r.av] (.d (.bool (ji p r))):=by
 refine con Tryz.func190 rfl rfl Tryz.call190 rfl fun hwf=>?_
 simp only [ARs.wf,AR.wf,AV.wf,AV.wfs,lm,lim] at hwf
 (repeat' ((conv=>whnf);first|refine gA ?_|(refine gN ?_ ?_<;>intro h hw)|(refine gB ?_ ?_<;>intro h)|refine gV ?_|refine gC (aX p hp) ?_|refine gC (eH p _) ?_|refine gC (eO p _) ?_|refine gC (xU p _) ?_|refine gC (jF p _) ?_|refine gC (iQ _) ?_|refine gC (aO _ _ _) ?_|intro _))<;>try (conv=>whnf)
 all_goals refine⟨?_,rfl,trivial⟩
 all_goals (simp [ji, *];done)
end Go.Proofs.YtefgamefajmdkaaGreat.Abs
