/- Part of a proof. -/
import Derived.Test.YthegbfgeochckaaGreatC1
import Derived.Test.YthegbfgeochckaaGreatPlain
set_option linter.all false
set_option maxRecDepth 20000
set_option maxHeartbeats 0
namespace Go.Proofs.YthegbfgeochckaaGreat.Abs
open Go.Proofs
theorem qO (l:List Int) (n:Int) (hn:Sz n):Con 46 [.d (.sl (l.map i64)),.d (i64 n)] (.d (i64 (szN l.length n))):=by
 refine con Tryz.func46 rfl rfl Tryz.call46 rfl fun hwf=>?_
 simp only [ARs.wf,AR.wf,AV.wf,AV.wfs,lm,lim] at hwf
 unfold Sz at hn
 (repeat' ((conv=>whnf);first|refine gA ?_|(refine gB ?_ ?_<;>intro h)))<;>try (conv=>whnf)
 all_goals refine⟨?_,rfl,trivial⟩
 all_goals (simp only [szN,List.length_map];first|(rw [if_pos (by omega)];done)|(rw [if_neg (by omega)];done))
theorem JI (l:List (List Int)) (n:Int) (hn:Sz n):Con 47 [.d (.sl (l.map ints)),.d (i64 n)] (.d (i64 (szS (fun x n=>szN x.length n) l n))):=by
 refine con Tryz.func47 rfl rfl Tryz.call47 rfl fun hwf=>?_
 simp only [ARs.wf,AR.wf,AV.wf,AV.wfs,lm,lim] at hwf
 have hn':=hn
 unfold Sz at hn'
 (repeat' ((conv=>whnf);first|refine gA ?_|(refine gB ?_ ?_<;>intro h)))<;>try (conv=>whnf)
 rotate_left
 ·refine ay [0] [] [] ?_
  (conv=>whnf)
  refine au.go ((Nat)×(Int)) (fun⟨k,m⟩=>(k<=l.length)/\(Sz m/\0<=m)/\(szL (fun x n=>szN x.length n) (l.drop k) m=szS (fun x n=>szN x.length n) l n)) (fun⟨k,m⟩=>[(5,.data (i64 k)),(1,.data (i64 m))]) lE lE (fun⟨k,m⟩=>l.length - k) ⟨0,n - ((l.map ints).length:Int)⟩ ?_ ?_
  ·simp only [List.length_map]
   refine⟨by omega,by unfold Sz;omega,?_⟩
   rw [szS,szN,if_neg (by omega),szB,if_neg (by omega)];rfl
  rintro⟨k,m⟩ ⟨hk,hm,hi⟩
  have hm':=hm.1
  unfold Sz at hm'
  (repeat' ((conv=>whnf);first|refine gA ?_|(refine gB ?_ ?_<;>intro h)|(refine gI ?_;intro x hx)|refine gC (qO x m hm.1) ?_|intro _))<;>try (conv=>whnf)
  ·refine⟨?_,rfl,trivial⟩
   rw [aA hx,szL,szB,if_pos (by assumption)] at hi
   rw [<- hi]
  ·apply Exists.intro (⟨k+1,_⟩)
   refine⟨?_,rfl,?_,?_⟩
   rotate_left
   ·(repeat' ((conv=>whnf)<;>(first|exact trivial|exact rfl|with_reducible refine And.intro ?_ ?_)))
   ·(try dsimp only);(try simp only [List.length_map]);omega
   rw [aA hx,szL,szB,if_neg (by assumption)] at hi
   exact⟨by omega,⟨jC hm.1,by omega⟩,hi⟩
  ·refine⟨?_,rfl,trivial⟩
   rw [<- hi,aG (by assumption)];rfl
 ·refine⟨?_,rfl,trivial⟩
  rw [szS,szN,if_pos (by omega)];rfl
theorem Vw (l:List Step) (n:Int) (hn:Sz n):Con 190 [.d (.sl (l.map Step.av)),.d (i64 n)] (.d (i64 (szN l.length n))):=by
 refine con Tryz.func190 rfl rfl Tryz.call190 rfl fun hwf=>?_
 simp only [ARs.wf,AR.wf,AV.wf,AV.wfs,lm,lim] at hwf
 unfold Sz at hn
 (repeat' ((conv=>whnf);first|refine gA ?_|(refine gB ?_ ?_<;>intro h)))<;>try (conv=>whnf)
 all_goals refine⟨?_,rfl,trivial⟩
 all_goals (simp only [szN,List.length_map];first|(rw [if_pos (by omega)];done)|(rw [if_neg (by omega)];done))
def tH (x:Mode) (n:Int):Int:=szB (szN x.use.length n) fun n=>szB (szN x.con.length n) fun n=>n
theorem TA {x:Mode} {n:Int} (h:Sz n):Sz (tH x n):=by
 unfold tH
 refine pW (jC h) fun h=>?_
 refine pW (jC h) fun h=>?_
 exact h
theorem Yt (x:Mode) (n:Int) (hn:Sz n):Con 254 [.d x.av,.d (i64 n)] (.d (i64 (tH x n))):=by
 refine con Tryz.func254 rfl rfl Tryz.call254 rfl fun hwf=>?_
 have h0:Sz (szN x.use.length n):=jC hn
 have h1:Sz (szN x.con.length (szN x.use.length n)):=jC h0
 (repeat' ((conv=>whnf);first|refine gA ?_|(refine gB ?_ ?_<;>intro h)|refine gC (qO x.use n hn) ?_|refine gC (qO x.con (szN x.use.length n) h0) ?_|intro _))
 all_goals refine⟨?_,rfl,trivial⟩
 all_goals (unfold tH;simp only [szB, *,if_true,if_false,ite_true,ite_false])
theorem Vx (l:List Mode) (n:Int) (hn:Sz n):Con 189 [.d (.sl (l.map Mode.av)),.d (i64 n)] (.d (i64 (szS (fun x n=>tH x n) l n))):=by
 refine con Tryz.func189 rfl rfl Tryz.call189 rfl fun hwf=>?_
 simp only [ARs.wf,AR.wf,AV.wf,AV.wfs,lm,lim] at hwf
 have hn':=hn
 unfold Sz at hn'
 (repeat' ((conv=>whnf);first|refine gA ?_|(refine gB ?_ ?_<;>intro h)))<;>try (conv=>whnf)
 rotate_left
 ·refine ay [0] [] [] ?_
  (conv=>whnf)
  refine au.go ((Nat)×(Int)) (fun⟨k,m⟩=>(k<=l.length)/\(Sz m/\0<=m)/\(szL (fun x n=>tH x n) (l.drop k) m=szS (fun x n=>tH x n) l n)) (fun⟨k,m⟩=>[(5,.data (i64 k)),(1,.data (i64 m))]) lE lE (fun⟨k,m⟩=>l.length - k) ⟨0,n - ((l.map Mode.av).length:Int)⟩ ?_ ?_
  ·simp only [List.length_map]
   refine⟨by omega,by unfold Sz;omega,?_⟩
   rw [szS,szN,if_neg (by omega),szB,if_neg (by omega)];rfl
  rintro⟨k,m⟩ ⟨hk,hm,hi⟩
  have hm':=hm.1
  unfold Sz at hm'
  (repeat' ((conv=>whnf);first|refine gA ?_|(refine gB ?_ ?_<;>intro h)|(refine gI ?_;intro x hx)|refine gC (Yt x m hm.1) ?_|intro _))<;>try (conv=>whnf)
  ·refine⟨?_,rfl,trivial⟩
   rw [aA hx,szL,szB,if_pos (by assumption)] at hi
   rw [<- hi]
  ·apply Exists.intro (⟨k+1,_⟩)
   refine⟨?_,rfl,?_,?_⟩
   rotate_left
   ·(repeat' ((conv=>whnf)<;>(first|exact trivial|exact rfl|with_reducible refine And.intro ?_ ?_)))
   ·(try dsimp only);(try simp only [List.length_map]);omega
   rw [aA hx,szL,szB,if_neg (by assumption)] at hi
   exact⟨by omega,⟨TA hm.1,by omega⟩,hi⟩
  ·refine⟨?_,rfl,trivial⟩
   rw [<- hi,aG (by assumption)];rfl
 ·refine⟨?_,rfl,trivial⟩
  rw [szS,szN,if_pos (by omega)];rfl
def cZ (x:aB) (n:Int):Int:=szB (szN x.name.size n) fun n=>szB (szS (fun x n=>tH x n) x.modes n) fun n=>n
theorem yU {x:aB} {n:Int} (h:Sz n):Sz (cZ x n):=by
 unfold cZ
 refine pW (jC h) fun h=>?_
 refine pW ((Ac fun h=>TA h) h) fun h=>?_
 exact h
theorem MS (x:aB) (n:Int) (hn:Sz n) (hf:x.name.size<=lim):Con 111 [.d x.av,.d (i64 n)] (.d (i64 (cZ x n))):=by
 refine con Tryz.func111 rfl rfl Tryz.call111 rfl fun hwf=>?_
 have hn':=hn
 unfold Sz at hn'
 unfold lim at hf
 by_cases hneg:n - (x.name.size:Int) < 0
 ·(repeat' ((conv=>whnf);first|refine gA ?_|(refine gB ?_ ?_<;>intro h)))
  ·refine⟨?_,rfl,trivial⟩
   rw [cZ,szN,if_pos hneg];rfl
  ·exact absurd hneg (by assumption)
 ·have h0:Sz (n - (x.name.size:Int)):=by unfold Sz;omega
  (repeat' ((conv=>whnf);first|refine gAV ?_|(refine gB ?_ ?_<;>intro h)|refine gC (Vx x.modes _ h0) ?_|intro _))
  all_goals first
   |(exfalso;exact hneg (by assumption))
   |(refine⟨?_,rfl,trivial⟩;rw [cZ,szN,if_neg hneg,szB,if_neg hneg,szB];first|(rw [if_pos (by assumption)];done)|(rw [if_neg (by assumption)];done))
theorem KS (l:List aB) (n:Int) (hn:Sz n) (hf:∀x∈l,x.name.size<=lim):Con 43 [.d (.sl (l.map aB.av)),.d (i64 n)] (.d (i64 (szS (fun x n=>cZ x n) l n))):=by
 refine con Tryz.func43 rfl rfl Tryz.call43 rfl fun hwf=>?_
 simp only [ARs.wf,AR.wf,AV.wf,AV.wfs,lm,lim] at hwf
 have hn':=hn
 unfold Sz at hn'
 (repeat' ((conv=>whnf);first|refine gA ?_|(refine gB ?_ ?_<;>intro h)))<;>try (conv=>whnf)
 rotate_left
 ·refine ay [0] [] [] ?_
  (conv=>whnf)
  refine au.go ((Nat)×(Int)) (fun⟨k,m⟩=>(k<=l.length)/\(Sz m/\0<=m)/\(szL (fun x n=>cZ x n) (l.drop k) m=szS (fun x n=>cZ x n) l n)) (fun⟨k,m⟩=>[(5,.data (i64 k)),(1,.data (i64 m))]) lE lE (fun⟨k,m⟩=>l.length - k) ⟨0,n - ((l.map aB.av).length:Int)⟩ ?_ ?_
  ·simp only [List.length_map]
   refine⟨by omega,by unfold Sz;omega,?_⟩
   rw [szS,szN,if_neg (by omega),szB,if_neg (by omega)];rfl
  rintro⟨k,m⟩ ⟨hk,hm,hi⟩
  have hm':=hm.1
  unfold Sz at hm'
  (repeat' ((conv=>whnf);first|refine gA ?_|(refine gB ?_ ?_<;>intro h)|(refine gI ?_;intro x hx)|refine gC (MS x m hm.1 (hf x (List.mem_of_getElem? hx))) ?_|intro _))<;>try (conv=>whnf)
  ·refine⟨?_,rfl,trivial⟩
   rw [aA hx,szL,szB,if_pos (by assumption)] at hi
   rw [<- hi]
  ·apply Exists.intro (⟨k+1,_⟩)
   refine⟨?_,rfl,?_,?_⟩
   rotate_left
   ·(repeat' ((conv=>whnf)<;>(first|exact trivial|exact rfl|with_reducible refine And.intro ?_ ?_)))
   ·(try dsimp only);(try simp only [List.length_map]);omega
   rw [aA hx,szL,szB,if_neg (by assumption)] at hi
   exact⟨by omega,⟨yU hm.1,by omega⟩,hi⟩
  ·refine⟨?_,rfl,trivial⟩
   rw [<- hi,aG (by assumption)];rfl
 ·refine⟨?_,rfl,trivial⟩
  rw [szS,szN,if_pos (by omega)];rfl
theorem Vy (l:List Link) (n:Int) (hn:Sz n):Con 44 [.d (.sl (l.map Link.av)),.d (i64 n)] (.d (i64 (szN l.length n))):=by
 refine con Tryz.func44 rfl rfl Tryz.call44 rfl fun hwf=>?_
 simp only [ARs.wf,AR.wf,AV.wf,AV.wfs,lm,lim] at hwf
 unfold Sz at hn
 (repeat' ((conv=>whnf);first|refine gA ?_|(refine gB ?_ ?_<;>intro h)))<;>try (conv=>whnf)
 all_goals refine⟨?_,rfl,trivial⟩
 all_goals (simp only [szN,List.length_map];first|(rw [if_pos (by omega)];done)|(rw [if_neg (by omega)];done))
def fD (x:aK) (n:Int):Int:=szB (szN x.steps.length n) fun n=>szB (szS (fun x n=>szN x.length n) x.setup n) fun n=>n
theorem yV {x:aK} {n:Int} (h:Sz n):Sz (fD x n):=by
 unfold fD
 refine pW (jC h) fun h=>?_
 refine pW ((Ac fun h=>jC h) h) fun h=>?_
 exact h
theorem MU (x:aK) (n:Int) (hn:Sz n):Con 112 [.d x.av,.d (i64 n)] (.d (i64 (fD x n))):=by
 refine con Tryz.func112 rfl rfl Tryz.call112 rfl fun hwf=>?_
 have h0:Sz (szN x.steps.length n):=jC hn
 have h1:Sz (szS (fun x n=>szN x.length n) x.setup (szN x.steps.length n)):=Ac (fun h=>jC h) h0
 (repeat' ((conv=>whnf);first|refine gA ?_|(refine gB ?_ ?_<;>intro h)|refine gC (Vw x.steps n hn) ?_|refine gC (JI x.setup (szN x.steps.length n) h0) ?_|intro _))
 all_goals refine⟨?_,rfl,trivial⟩
 all_goals (unfold fD;simp only [szB, *,if_true,if_false,ite_true,ite_false])
theorem KT (l:List aK) (n:Int) (hn:Sz n):Con 45 [.d (.sl (l.map aK.av)),.d (i64 n)] (.d (i64 (szS (fun x n=>fD x n) l n))):=by
 refine con Tryz.func45 rfl rfl Tryz.call45 rfl fun hwf=>?_
 simp only [ARs.wf,AR.wf,AV.wf,AV.wfs,lm,lim] at hwf
 have hn':=hn
 unfold Sz at hn'
 (repeat' ((conv=>whnf);first|refine gA ?_|(refine gB ?_ ?_<;>intro h)))<;>try (conv=>whnf)
 rotate_left
 ·refine ay [0] [] [] ?_
  (conv=>whnf)
  refine au.go ((Nat)×(Int)) (fun⟨k,m⟩=>(k<=l.length)/\(Sz m/\0<=m)/\(szL (fun x n=>fD x n) (l.drop k) m=szS (fun x n=>fD x n) l n)) (fun⟨k,m⟩=>[(5,.data (i64 k)),(1,.data (i64 m))]) lE lE (fun⟨k,m⟩=>l.length - k) ⟨0,n - ((l.map aK.av).length:Int)⟩ ?_ ?_
  ·simp only [List.length_map]
   refine⟨by omega,by unfold Sz;omega,?_⟩
   rw [szS,szN,if_neg (by omega),szB,if_neg (by omega)];rfl
  rintro⟨k,m⟩ ⟨hk,hm,hi⟩
  have hm':=hm.1
  unfold Sz at hm'
  (repeat' ((conv=>whnf);first|refine gA ?_|(refine gB ?_ ?_<;>intro h)|(refine gI ?_;intro x hx)|refine gC (MU x m hm.1) ?_|intro _))<;>try (conv=>whnf)
  ·refine⟨?_,rfl,trivial⟩
   rw [aA hx,szL,szB,if_pos (by assumption)] at hi
   rw [<- hi]
  ·apply Exists.intro (⟨k+1,_⟩)
   refine⟨?_,rfl,?_,?_⟩
   rotate_left
   ·(repeat' ((conv=>whnf)<;>(first|exact trivial|exact rfl|with_reducible refine And.intro ?_ ?_)))
   ·(try dsimp only);(try simp only [List.length_map]);omega
   rw [aA hx,szL,szB,if_neg (by assumption)] at hi
   exact⟨by omega,⟨yV hm.1,by omega⟩,hi⟩
  ·refine⟨?_,rfl,trivial⟩
   rw [<- hi,aG (by assumption)];rfl
 ·refine⟨?_,rfl,trivial⟩
  rw [szS,szN,if_pos (by omega)];rfl
def kM (x:Proj) (n:Int):Int:=szB (szS (fun x n=>cZ x n) x.acts n) fun n=>szB (szN x.links.length n) fun n=>szB (szS (fun x n=>fD x n) x.aS n) fun n=>szB (szN x.aH.length n) fun n=>n
theorem Vz {x:Proj} {n:Int} (h:Sz n):Sz (kM x n):=by
 unfold kM
 refine pW ((Ac fun h=>yU h) h) fun h=>?_
 refine pW (jC h) fun h=>?_
 refine pW ((Ac fun h=>yV h) h) fun h=>?_
 refine pW (jC h) fun h=>?_
 exact h
theorem Qs (x:Proj) (n:Int) (hn:Sz n) (hf:∀y∈x.acts,y.name.size<=lim):Con 13 [.d x.av,.d (i64 n)] (.d (i64 (kM x n))):=by
 refine con Tryz.func13 rfl rfl Tryz.call13 rfl fun hwf=>?_
 have h0:Sz (szS (fun x n=>cZ x n) x.acts n):=Ac (fun h=>yU h) hn
 have h1:Sz (szN x.links.length (szS (fun x n=>cZ x n) x.acts n)):=jC h0
 have h2:Sz (szS (fun x n=>fD x n) x.aS (szN x.links.length (szS (fun x n=>cZ x n) x.acts n))):=Ac (fun h=>yV h) h1
 have h3:Sz (szN x.aH.length (szS (fun x n=>fD x n) x.aS (szN x.links.length (szS (fun x n=>cZ x n) x.acts n)))):=jC h2
 (repeat' ((conv=>whnf);first|refine gA ?_|(refine gB ?_ ?_<;>intro h)|refine gC (KS x.acts n hn hf) ?_|refine gC (Vy x.links (szS (fun x n=>cZ x n) x.acts n) h0) ?_|refine gC (KT x.aS (szN x.links.length (szS (fun x n=>cZ x n) x.acts n)) h1) ?_|refine gC (qO x.aH (szS (fun x n=>fD x n) x.aS (szN x.links.length (szS (fun x n=>cZ x n) x.acts n))) h2) ?_|intro _))
 all_goals refine⟨?_,rfl,trivial⟩
 all_goals (unfold kM;simp only [szB, *,if_true,if_false,ite_true,ite_false])
theorem BF (l:List Lit) (n:Int) (hn:Sz n):Con 15 [.d (.sl (l.map Lit.av)),.d (i64 n)] (.d (i64 (szN l.length n))):=by
 refine con Tryz.func15 rfl rfl Tryz.call15 rfl fun hwf=>?_
 simp only [ARs.wf,AR.wf,AV.wf,AV.wfs,lm,lim] at hwf
 unfold Sz at hn
 (repeat' ((conv=>whnf);first|refine gA ?_|(refine gB ?_ ?_<;>intro h)))<;>try (conv=>whnf)
 all_goals refine⟨?_,rfl,trivial⟩
 all_goals (simp only [szN,List.length_map];first|(rw [if_pos (by omega)];done)|(rw [if_neg (by omega)];done))
def oL (x:Dom) (n:Int):Int:=szB (szN x.lo.length n) fun n=>szB (szN x.hi.length n) fun n=>szB (szS (fun x n=>szN x.length n) x.modes n) fun n=>n
theorem Yu {x:Dom} {n:Int} (h:Sz n):Sz (oL x n):=by
 unfold oL
 refine pW (jC h) fun h=>?_
 refine pW (jC h) fun h=>?_
 refine pW ((Ac fun h=>jC h) h) fun h=>?_
 exact h
theorem Rw (x:Dom) (n:Int) (hn:Sz n):Con 14 [.d x.av,.d (i64 n)] (.d (i64 (oL x n))):=by
 refine con Tryz.func14 rfl rfl Tryz.call14 rfl fun hwf=>?_
 have h0:Sz (szN x.lo.length n):=jC hn
 have h1:Sz (szN x.hi.length (szN x.lo.length n)):=jC h0
 have h2:Sz (szS (fun x n=>szN x.length n) x.modes (szN x.hi.length (szN x.lo.length n))):=Ac (fun h=>jC h) h1
 (repeat' ((conv=>whnf);first|refine gA ?_|(refine gB ?_ ?_<;>intro h)|refine gC (qO x.lo n hn) ?_|refine gC (qO x.hi (szN x.lo.length n) h0) ?_|refine gC (JI x.modes (szN x.hi.length (szN x.lo.length n)) h1) ?_|intro _))
 all_goals refine⟨?_,rfl,trivial⟩
 all_goals (unfold oL;simp only [szB, *,if_true,if_false,ite_true,ite_false])
def tJ (x:Lin) (n:Int):Int:=szB (szN x.clause.length n) fun n=>n
theorem acy {x:Lin} {n:Int} (h:Sz n):Sz (tJ x n):=by
 unfold tJ
 refine pW (jC h) fun h=>?_
 exact h
theorem Yv (x:Lin) (n:Int) (hn:Sz n):Con 48 [.d x.av,.d (i64 n)] (.d (i64 (tJ x n))):=by
 refine con Tryz.func48 rfl rfl Tryz.call48 rfl fun hwf=>?_
 have h0:Sz (szN x.clause.length n):=jC hn
 (repeat' ((conv=>whnf);first|refine gA ?_|(refine gB ?_ ?_<;>intro h)|refine gC (BF x.clause n hn) ?_|intro _))
 all_goals refine⟨?_,rfl,trivial⟩
 all_goals (unfold tJ;simp only [szB, *,if_true,if_false,ite_true,ite_false])
theorem VA (l:List Lin) (n:Int) (hn:Sz n):Con 16 [.d (.sl (l.map Lin.av)),.d (i64 n)] (.d (i64 (szS (fun x n=>tJ x n) l n))):=by
 refine con Tryz.func16 rfl rfl Tryz.call16 rfl fun hwf=>?_
 simp only [ARs.wf,AR.wf,AV.wf,AV.wfs,lm,lim] at hwf
 have hn':=hn
 unfold Sz at hn'
 (repeat' ((conv=>whnf);first|refine gA ?_|(refine gB ?_ ?_<;>intro h)))<;>try (conv=>whnf)
 rotate_left
 ·refine ay [0] [] [] ?_
  (conv=>whnf)
  refine au.go ((Nat)×(Int)) (fun⟨k,m⟩=>(k<=l.length)/\(Sz m/\0<=m)/\(szL (fun x n=>tJ x n) (l.drop k) m=szS (fun x n=>tJ x n) l n)) (fun⟨k,m⟩=>[(5,.data (i64 k)),(1,.data (i64 m))]) lE lE (fun⟨k,m⟩=>l.length - k) ⟨0,n - ((l.map Lin.av).length:Int)⟩ ?_ ?_
  ·simp only [List.length_map]
   refine⟨by omega,by unfold Sz;omega,?_⟩
   rw [szS,szN,if_neg (by omega),szB,if_neg (by omega)];rfl
  rintro⟨k,m⟩ ⟨hk,hm,hi⟩
  have hm':=hm.1
  unfold Sz at hm'
  (repeat' ((conv=>whnf);first|refine gA ?_|(refine gB ?_ ?_<;>intro h)|(refine gI ?_;intro x hx)|refine gC (Yv x m hm.1) ?_|intro _))<;>try (conv=>whnf)
  ·refine⟨?_,rfl,trivial⟩
   rw [aA hx,szL,szB,if_pos (by assumption)] at hi
   rw [<- hi]
  ·apply Exists.intro (⟨k+1,_⟩)
   refine⟨?_,rfl,?_,?_⟩
   rotate_left
   ·(repeat' ((conv=>whnf)<;>(first|exact trivial|exact rfl|with_reducible refine And.intro ?_ ?_)))
   ·(try dsimp only);(try simp only [List.length_map]);omega
   rw [aA hx,szL,szB,if_neg (by assumption)] at hi
   exact⟨by omega,⟨acy hm.1,by omega⟩,hi⟩
  ·refine⟨?_,rfl,trivial⟩
   rw [<- hi,aG (by assumption)];rfl
 ·refine⟨?_,rfl,trivial⟩
  rw [szS,szN,if_pos (by omega)];rfl
open Go.Proofs
theorem pO (l:List Int):Con 68 [.old (.sl (l.map i64))] (.d (.sl (l.map i64))):=by
 refine con Tryz.func68 rfl rfl Tryz.call68 rfl fun hwf=>?_
 simp only [ARs.wf,AR.wf,AV.wf,AV.wfs,lm,lim] at hwf
 (repeat' ((conv=>whnf);first|refine gM ?_|fail))<;>try (conv=>whnf)
 refine ay [0,3] [] [7] ?_
 (conv=>whnf)
 refine au.go ((Nat)) (fun k=>(k<=l.length)) (fun k=>[(4,.data (i64 k))]) lE (fun k=>[(7,3,filled i64 (i64 0) l k,0)]) (fun k=>l.length - k) (0) ?_ ?_
 ·exact Nat.zero_le _
 rintro k hk
 (repeat' ((conv=>whnf);first|with_reducible refine Idx.mk k (i64 0) rfl (dX (by omega)) ?_|refine gA ?_|(refine gB ?_ ?_<;>intro h)|(refine gI ?_;intro x hx)))<;>try (conv=>whnf)
 ·refine nw (k+1) ?_ ?_
  ·(repeat' ((conv=>whnf)<;>(first|exact trivial|exact rfl|with_reducible refine And.intro ?_ ?_)))<;>((conv=>whnf)<;>(exact dY hx rfl))
  exact (by omega:k+1<=l.length)
 ·refine⟨?_,rfl,trivial⟩
  dsimp only
  rw [dZ (by omega)]
theorem FP (l:List (List Int)):Con 69 [.old (.sl (l.map ints))] (.d (.sl (l.map ints))):=by
 refine con Tryz.func69 rfl rfl Tryz.call69 rfl fun hwf=>?_
 simp only [ARs.wf,AR.wf,AV.wf,AV.wfs,lm,lim] at hwf
 (repeat' ((conv=>whnf);first|refine gM ?_|fail))<;>try (conv=>whnf)
 refine ay [0,3] [] [7] ?_
 (conv=>whnf)
 refine au.go ((Nat)) (fun k=>(k<=l.length)) (fun k=>[(4,.data (i64 k))]) lE (fun k=>[(7,25,filled ints (.sl []) l k,0)]) (fun k=>l.length - k) (0) ?_ ?_
 ·exact Nat.zero_le _
 rintro k hk
 (repeat' ((conv=>whnf);first|with_reducible refine Idx.mk k (.sl []) rfl (dX (by omega)) ?_|refine gA ?_|(refine gB ?_ ?_<;>intro h)|(refine gI ?_;intro x hx)|refine gC (pO x) ?_|intro _))<;>try (conv=>whnf)
 ·refine nw (k+1) ?_ ?_
  ·(repeat' ((conv=>whnf)<;>(first|exact trivial|exact rfl|with_reducible refine And.intro ?_ ?_)))<;>((conv=>whnf)<;>(exact dY hx rfl))
  exact (by omega:k+1<=l.length)
 ·refine⟨?_,rfl,trivial⟩
  dsimp only
  rw [dZ (by omega)]
theorem VB (x:Step):Con 280 [.old x.av] (.d x.av):=by
 refine con Tryz.func280 rfl rfl Tryz.call280 rfl fun hwf=>?_
 try (conv=>whnf)
 exact⟨rfl,rfl,trivial⟩
theorem Rx (l:List Step):Con 221 [.old (.sl (l.map Step.av))] (.d (.sl (l.map Step.av))):=by
 refine con Tryz.func221 rfl rfl Tryz.call221 rfl fun hwf=>?_
 simp only [ARs.wf,AR.wf,AV.wf,AV.wfs,lm,lim] at hwf
 (repeat' ((conv=>whnf);first|refine gM ?_|fail))<;>try (conv=>whnf)
 refine ay [0,3] [] [7] ?_
 (conv=>whnf)
 refine au.go ((Nat)) (fun k=>(k<=l.length)) (fun k=>[(4,.data (i64 k))]) lE (fun k=>[(7,218,filled Step.av (.agg [i64 0,i64 0]) l k,0)]) (fun k=>l.length - k) (0) ?_ ?_
 ·exact Nat.zero_le _
 rintro k hk
 (repeat' ((conv=>whnf);first|with_reducible refine Idx.mk k (.agg [i64 0,i64 0]) rfl (dX (by omega)) ?_|refine gA ?_|(refine gB ?_ ?_<;>intro h)|(refine gI ?_;intro x hx)|refine gC (VB x) ?_|intro _))<;>try (conv=>whnf)
 ·refine nw (k+1) ?_ ?_
  ·(repeat' ((conv=>whnf)<;>(first|exact trivial|exact rfl|with_reducible refine And.intro ?_ ?_)))<;>((conv=>whnf)<;>(exact dY hx rfl))
  exact (by omega:k+1<=l.length)
 ·refine⟨?_,rfl,trivial⟩
  dsimp only
  rw [dZ (by omega)]
theorem VD (x:Mode):Con 279 [.old x.av] (.d x.av):=by
 refine con Tryz.func279 rfl rfl Tryz.call279 rfl fun hwf=>?_
 (repeat' ((conv=>whnf);first|refine gA ?_|refine gC (pO x.use) ?_|refine gC (pO x.con) ?_|intro _))
 exact⟨rfl,rfl,trivial⟩
theorem Ry (l:List Mode):Con 220 [.old (.sl (l.map Mode.av))] (.d (.sl (l.map Mode.av))):=by
 refine con Tryz.func220 rfl rfl Tryz.call220 rfl fun hwf=>?_
 simp only [ARs.wf,AR.wf,AV.wf,AV.wfs,lm,lim] at hwf
 (repeat' ((conv=>whnf);first|refine gM ?_|fail))<;>try (conv=>whnf)
 refine ay [0,3] [] [7] ?_
 (conv=>whnf)
 refine au.go ((Nat)) (fun k=>(k<=l.length)) (fun k=>[(4,.data (i64 k))]) lE (fun k=>[(7,210,filled Mode.av (.agg [i64 0,.sl [],.sl []]) l k,0)]) (fun k=>l.length - k) (0) ?_ ?_
 ·exact Nat.zero_le _
 rintro k hk
 (repeat' ((conv=>whnf);first|with_reducible refine Idx.mk k (.agg [i64 0,.sl [],.sl []]) rfl (dX (by omega)) ?_|refine gA ?_|(refine gB ?_ ?_<;>intro h)|(refine gI ?_;intro x hx)|refine gC (VD x) ?_|intro _))<;>try (conv=>whnf)
 ·refine nw (k+1) ?_ ?_
  ·(repeat' ((conv=>whnf)<;>(first|exact trivial|exact rfl|with_reducible refine And.intro ?_ ?_)))<;>((conv=>whnf)<;>(exact dY hx rfl))
  exact (by omega:k+1<=l.length)
 ·refine⟨?_,rfl,trivial⟩
  dsimp only
  rw [dZ (by omega)]
theorem KU (x:aB):Con 137 [.old x.av] (.d x.av):=by
 refine con Tryz.func137 rfl rfl Tryz.call137 rfl fun hwf=>?_
 (repeat' ((conv=>whnf);first|refine gA ?_|refine gC (Ry x.modes) ?_|intro _))
 exact⟨rfl,rfl,trivial⟩
theorem JJ (l:List aB):Con 65 [.old (.sl (l.map aB.av))] (.d (.sl (l.map aB.av))):=by
 refine con Tryz.func65 rfl rfl Tryz.call65 rfl fun hwf=>?_
 simp only [ARs.wf,AR.wf,AV.wf,AV.wfs,lm,lim] at hwf
 (repeat' ((conv=>whnf);first|refine gM ?_|fail))<;>try (conv=>whnf)
 refine ay [0,3] [] [7] ?_
 (conv=>whnf)
 refine au.go ((Nat)) (fun k=>(k<=l.length)) (fun k=>[(4,.data (i64 k))]) lE (fun k=>[(7,165,filled aB.av (.agg [.str ⟨#[]⟩,i64 0,.sl []]) l k,0)]) (fun k=>l.length - k) (0) ?_ ?_
 ·exact Nat.zero_le _
 rintro k hk
 (repeat' ((conv=>whnf);first|with_reducible refine Idx.mk k (.agg [.str ⟨#[]⟩,i64 0,.sl []]) rfl (dX (by omega)) ?_|refine gA ?_|(refine gB ?_ ?_<;>intro h)|(refine gI ?_;intro x hx)|refine gC (KU x) ?_|intro _))<;>try (conv=>whnf)
 ·refine nw (k+1) ?_ ?_
  ·(repeat' ((conv=>whnf)<;>(first|exact trivial|exact rfl|with_reducible refine And.intro ?_ ?_)))<;>((conv=>whnf)<;>(exact dY hx rfl))
  exact (by omega:k+1<=l.length)
 ·refine⟨?_,rfl,trivial⟩
  dsimp only
  rw [dZ (by omega)]
theorem VE (x:Link):Con 138 [.old x.av] (.d x.av):=by
 refine con Tryz.func138 rfl rfl Tryz.call138 rfl fun hwf=>?_
 try (conv=>whnf)
 exact⟨rfl,rfl,trivial⟩
theorem Rz (l:List Link):Con 66 [.old (.sl (l.map Link.av))] (.d (.sl (l.map Link.av))):=by
 refine con Tryz.func66 rfl rfl Tryz.call66 rfl fun hwf=>?_
 simp only [ARs.wf,AR.wf,AV.wf,AV.wfs,lm,lim] at hwf
 (repeat' ((conv=>whnf);first|refine gM ?_|fail))<;>try (conv=>whnf)
 refine ay [0,3] [] [7] ?_
 (conv=>whnf)
 refine au.go ((Nat)) (fun k=>(k<=l.length)) (fun k=>[(4,.data (i64 k))]) lE (fun k=>[(7,173,filled Link.av (.agg [i64 0,i64 0,.bool false,i64 0]) l k,0)]) (fun k=>l.length - k) (0) ?_ ?_
 ·exact Nat.zero_le _
 rintro k hk
 (repeat' ((conv=>whnf);first|with_reducible refine Idx.mk k (.agg [i64 0,i64 0,.bool false,i64 0]) rfl (dX (by omega)) ?_|refine gA ?_|(refine gB ?_ ?_<;>intro h)|(refine gI ?_;intro x hx)|refine gC (VE x) ?_|intro _))<;>try (conv=>whnf)
 ·refine nw (k+1) ?_ ?_
  ·(repeat' ((conv=>whnf)<;>(first|exact trivial|exact rfl|with_reducible refine And.intro ?_ ?_)))<;>((conv=>whnf)<;>(exact dY hx rfl))
  exact (by omega:k+1<=l.length)
 ·refine⟨?_,rfl,trivial⟩
  dsimp only
  rw [dZ (by omega)]
theorem KV (x:aK):Con 139 [.old x.av] (.d x.av):=by
 refine con Tryz.func139 rfl rfl Tryz.call139 rfl fun hwf=>?_
 (repeat' ((conv=>whnf);first|refine gA ?_|refine gC (Rx x.steps) ?_|refine gC (FP x.setup) ?_|intro _))
 exact⟨rfl,rfl,trivial⟩
theorem JK (l:List aK):Con 67 [.old (.sl (l.map aK.av))] (.d (.sl (l.map aK.av))):=by
 refine con Tryz.func67 rfl rfl Tryz.call67 rfl fun hwf=>?_
 simp only [ARs.wf,AR.wf,AV.wf,AV.wfs,lm,lim] at hwf
 (repeat' ((conv=>whnf);first|refine gM ?_|fail))<;>try (conv=>whnf)
 refine ay [0,3] [] [7] ?_
 (conv=>whnf)
 refine au.go ((Nat)) (fun k=>(k<=l.length)) (fun k=>[(4,.data (i64 k))]) lE (fun k=>[(7,170,filled aK.av (.agg [.sl [],.sl []]) l k,0)]) (fun k=>l.length - k) (0) ?_ ?_
 ·exact Nat.zero_le _
 rintro k hk
 (repeat' ((conv=>whnf);first|with_reducible refine Idx.mk k (.agg [.sl [],.sl []]) rfl (dX (by omega)) ?_|refine gA ?_|(refine gB ?_ ?_<;>intro h)|(refine gI ?_;intro x hx)|refine gC (KV x) ?_|intro _))<;>try (conv=>whnf)
 ·refine nw (k+1) ?_ ?_
  ·(repeat' ((conv=>whnf)<;>(first|exact trivial|exact rfl|with_reducible refine And.intro ?_ ?_)))<;>((conv=>whnf)<;>(exact dY hx rfl))
  exact (by omega:k+1<=l.length)
 ·refine⟨?_,rfl,trivial⟩
  dsimp only
  rw [dZ (by omega)]
theorem MW (x:Proj):Con 21 [.old x.av] (.d x.av):=by
 refine con Tryz.func21 rfl rfl Tryz.call21 rfl fun hwf=>?_
 (repeat' ((conv=>whnf);first|refine gA ?_|refine gC (JJ x.acts) ?_|refine gC (Rz x.links) ?_|refine gC (JK x.aS) ?_|refine gC (pO x.aH) ?_|intro _))
 exact⟨rfl,rfl,trivial⟩
theorem VF (x:Rul):Con 140 [.d x.av] (.d x.av):=by
 refine con Tryz.func140 rfl rfl Tryz.call140 rfl fun hwf=>?_
 try (conv=>whnf)
 exact⟨rfl,rfl,trivial⟩
theorem MX (x:Lit):Con 70 [.old x.av] (.d x.av):=by
 refine con Tryz.func70 rfl rfl Tryz.call70 rfl fun hwf=>?_
 try (conv=>whnf)
 exact⟨rfl,rfl,trivial⟩
theorem zM (l:List Lit):Con 23 [.old (.sl (l.map Lit.av))] (.d (.sl (l.map Lit.av))):=by
 refine con Tryz.func23 rfl rfl Tryz.call23 rfl fun hwf=>?_
 simp only [ARs.wf,AR.wf,AV.wf,AV.wfs,lm,lim] at hwf
 (repeat' ((conv=>whnf);first|refine gM ?_|fail))<;>try (conv=>whnf)
 refine ay [0,3] [] [7] ?_
 (conv=>whnf)
 refine au.go ((Nat)) (fun k=>(k<=l.length)) (fun k=>[(4,.data (i64 k))]) lE (fun k=>[(7,102,filled Lit.av (.agg [i64 0,i64 0,i64 0]) l k,0)]) (fun k=>l.length - k) (0) ?_ ?_
 ·exact Nat.zero_le _
 rintro k hk
 (repeat' ((conv=>whnf);first|with_reducible refine Idx.mk k (.agg [i64 0,i64 0,i64 0]) rfl (dX (by omega)) ?_|refine gA ?_|(refine gB ?_ ?_<;>intro h)|(refine gI ?_;intro x hx)|refine gC (MX x) ?_|intro _))<;>try (conv=>whnf)
 ·refine nw (k+1) ?_ ?_
  ·(repeat' ((conv=>whnf)<;>(first|exact trivial|exact rfl|with_reducible refine And.intro ?_ ?_)))<;>((conv=>whnf)<;>(exact dY hx rfl))
  exact (by omega:k+1<=l.length)
 ·refine⟨?_,rfl,trivial⟩
  dsimp only
  rw [dZ (by omega)]
theorem Qt (x:Dom):Con 22 [.old x.av] (.d x.av):=by
 refine con Tryz.func22 rfl rfl Tryz.call22 rfl fun hwf=>?_
 (repeat' ((conv=>whnf);first|refine gA ?_|refine gC (pO x.lo) ?_|refine gC (pO x.hi) ?_|refine gC (FP x.modes) ?_|intro _))
 exact⟨rfl,rfl,trivial⟩
theorem VG (x:Lin):Con 71 [.old x.av] (.d x.av):=by
 refine con Tryz.func71 rfl rfl Tryz.call71 rfl fun hwf=>?_
 (repeat' ((conv=>whnf);first|refine gA ?_|refine gC (VF x.rule) ?_|refine gC (zM x.clause) ?_|intro _))
 exact⟨rfl,rfl,trivial⟩
theorem RA (l:List Lin):Con 24 [.old (.sl (l.map Lin.av))] (.d (.sl (l.map Lin.av))):=by
 refine con Tryz.func24 rfl rfl Tryz.call24 rfl fun hwf=>?_
 simp only [ARs.wf,AR.wf,AV.wf,AV.wfs,lm,lim] at hwf
 (repeat' ((conv=>whnf);first|refine gM ?_|fail))<;>try (conv=>whnf)
 refine ay [0,3] [] [7] ?_
 (conv=>whnf)
 refine au.go ((Nat)) (fun k=>(k<=l.length)) (fun k=>[(4,.data (i64 k))]) lE (fun k=>[(7,130,filled Lin.av (.agg [i64 0,i64 0,i64 0,i64 0,i64 0,.sl []]) l k,0)]) (fun k=>l.length - k) (0) ?_ ?_
 ·exact Nat.zero_le _
 rintro k hk
 (repeat' ((conv=>whnf);first|with_reducible refine Idx.mk k (.agg [i64 0,i64 0,i64 0,i64 0,i64 0,.sl []]) rfl (dX (by omega)) ?_|refine gA ?_|(refine gB ?_ ?_<;>intro h)|(refine gI ?_;intro x hx)|refine gC (VG x) ?_|intro _))<;>try (conv=>whnf)
 ·refine nw (k+1) ?_ ?_
  ·(repeat' ((conv=>whnf)<;>(first|exact trivial|exact rfl|with_reducible refine And.intro ?_ ?_)))<;>((conv=>whnf)<;>(exact dY hx rfl))
  exact (by omega:k+1<=l.length)
 ·refine⟨?_,rfl,trivial⟩
  dsimp only
  rw [dZ (by omega)]
end Go.Proofs.YthegbfgeochckaaGreat.Abs
namespace Go.Proofs.YthegbfgeochckaaGreat.Abs
open Go.Proofs
theorem qP (l:List Int):Con 68 [.d (.sl (l.map i64))] (.d (.sl (l.map i64))):=by
 refine con Tryz.func68 rfl rfl Tryz.call68 rfl fun hwf=>?_
 simp only [ARs.wf,AR.wf,AV.wf,AV.wfs,lm,lim] at hwf
 (repeat' ((conv=>whnf);first|refine gM ?_|fail))<;>try (conv=>whnf)
 refine ay [0,3] [] [7] ?_
 (conv=>whnf)
 refine au.go ((Nat)) (fun k=>(k<=l.length)) (fun k=>[(4,.data (i64 k))]) lE (fun k=>[(7,3,filled i64 (i64 0) l k,0)]) (fun k=>l.length - k) (0) ?_ ?_
 ·exact Nat.zero_le _
 rintro k hk
 (repeat' ((conv=>whnf);first|with_reducible refine Idx.mk k (i64 0) rfl (dX (by omega)) ?_|refine gA ?_|(refine gB ?_ ?_<;>intro h)|(refine gI ?_;intro x hx)))<;>try (conv=>whnf)
 ·refine nw (k+1) ?_ ?_
  ·(repeat' ((conv=>whnf)<;>(first|exact trivial|exact rfl|with_reducible refine And.intro ?_ ?_)))<;>((conv=>whnf)<;>(exact dY hx rfl))
  exact (by omega:k+1<=l.length)
 ·refine⟨?_,rfl,trivial⟩
  dsimp only
  rw [dZ (by omega)]
theorem JL (l:List (List Int)):Con 69 [.d (.sl (l.map ints))] (.d (.sl (l.map ints))):=by
 refine con Tryz.func69 rfl rfl Tryz.call69 rfl fun hwf=>?_
 simp only [ARs.wf,AR.wf,AV.wf,AV.wfs,lm,lim] at hwf
 (repeat' ((conv=>whnf);first|refine gM ?_|fail))<;>try (conv=>whnf)
 refine ay [0,3] [] [7] ?_
 (conv=>whnf)
 refine au.go ((Nat)) (fun k=>(k<=l.length)) (fun k=>[(4,.data (i64 k))]) lE (fun k=>[(7,25,filled ints (.sl []) l k,0)]) (fun k=>l.length - k) (0) ?_ ?_
 ·exact Nat.zero_le _
 rintro k hk
 (repeat' ((conv=>whnf);first|with_reducible refine Idx.mk k (.sl []) rfl (dX (by omega)) ?_|refine gA ?_|(refine gB ?_ ?_<;>intro h)|(refine gI ?_;intro x hx)|refine gC (qP x) ?_|intro _))<;>try (conv=>whnf)
 ·refine nw (k+1) ?_ ?_
  ·(repeat' ((conv=>whnf)<;>(first|exact trivial|exact rfl|with_reducible refine And.intro ?_ ?_)))<;>((conv=>whnf)<;>(exact dY hx rfl))
  exact (by omega:k+1<=l.length)
 ·refine⟨?_,rfl,trivial⟩
  dsimp only
  rw [dZ (by omega)]
theorem Yw (x:Step):Con 280 [.d x.av] (.d x.av):=by
 refine con Tryz.func280 rfl rfl Tryz.call280 rfl fun hwf=>?_
 try (conv=>whnf)
 exact⟨rfl,rfl,trivial⟩
theorem VH (l:List Step):Con 221 [.d (.sl (l.map Step.av))] (.d (.sl (l.map Step.av))):=by
 refine con Tryz.func221 rfl rfl Tryz.call221 rfl fun hwf=>?_
 simp only [ARs.wf,AR.wf,AV.wf,AV.wfs,lm,lim] at hwf
 (repeat' ((conv=>whnf);first|refine gM ?_|fail))<;>try (conv=>whnf)
 refine ay [0,3] [] [7] ?_
 (conv=>whnf)
 refine au.go ((Nat)) (fun k=>(k<=l.length)) (fun k=>[(4,.data (i64 k))]) lE (fun k=>[(7,218,filled Step.av (.agg [i64 0,i64 0]) l k,0)]) (fun k=>l.length - k) (0) ?_ ?_
 ·exact Nat.zero_le _
 rintro k hk
 (repeat' ((conv=>whnf);first|with_reducible refine Idx.mk k (.agg [i64 0,i64 0]) rfl (dX (by omega)) ?_|refine gA ?_|(refine gB ?_ ?_<;>intro h)|(refine gI ?_;intro x hx)|refine gC (Yw x) ?_|intro _))<;>try (conv=>whnf)
 ·refine nw (k+1) ?_ ?_
  ·(repeat' ((conv=>whnf)<;>(first|exact trivial|exact rfl|with_reducible refine And.intro ?_ ?_)))<;>((conv=>whnf)<;>(exact dY hx rfl))
  exact (by omega:k+1<=l.length)
 ·refine⟨?_,rfl,trivial⟩
  dsimp only
  rw [dZ (by omega)]
theorem Yx (x:Mode):Con 279 [.d x.av] (.d x.av):=by
 refine con Tryz.func279 rfl rfl Tryz.call279 rfl fun hwf=>?_
 (repeat' ((conv=>whnf);first|refine gA ?_|refine gC (qP x.use) ?_|refine gC (qP x.con) ?_|intro _))
 exact⟨rfl,rfl,trivial⟩
theorem VI (l:List Mode):Con 220 [.d (.sl (l.map Mode.av))] (.d (.sl (l.map Mode.av))):=by
 refine con Tryz.func220 rfl rfl Tryz.call220 rfl fun hwf=>?_
 simp only [ARs.wf,AR.wf,AV.wf,AV.wfs,lm,lim] at hwf
 (repeat' ((conv=>whnf);first|refine gM ?_|fail))<;>try (conv=>whnf)
 refine ay [0,3] [] [7] ?_
 (conv=>whnf)
 refine au.go ((Nat)) (fun k=>(k<=l.length)) (fun k=>[(4,.data (i64 k))]) lE (fun k=>[(7,210,filled Mode.av (.agg [i64 0,.sl [],.sl []]) l k,0)]) (fun k=>l.length - k) (0) ?_ ?_
 ·exact Nat.zero_le _
 rintro k hk
 (repeat' ((conv=>whnf);first|with_reducible refine Idx.mk k (.agg [i64 0,.sl [],.sl []]) rfl (dX (by omega)) ?_|refine gA ?_|(refine gB ?_ ?_<;>intro h)|(refine gI ?_;intro x hx)|refine gC (Yx x) ?_|intro _))<;>try (conv=>whnf)
 ·refine nw (k+1) ?_ ?_
  ·(repeat' ((conv=>whnf)<;>(first|exact trivial|exact rfl|with_reducible refine And.intro ?_ ?_)))<;>((conv=>whnf)<;>(exact dY hx rfl))
  exact (by omega:k+1<=l.length)
 ·refine⟨?_,rfl,trivial⟩
  dsimp only
  rw [dZ (by omega)]
theorem MZ (x:aB):Con 137 [.d x.av] (.d x.av):=by
 refine con Tryz.func137 rfl rfl Tryz.call137 rfl fun hwf=>?_
 (repeat' ((conv=>whnf);first|refine gA ?_|refine gC (VI x.modes) ?_|intro _))
 exact⟨rfl,rfl,trivial⟩
theorem KW (l:List aB):Con 65 [.d (.sl (l.map aB.av))] (.d (.sl (l.map aB.av))):=by
 refine con Tryz.func65 rfl rfl Tryz.call65 rfl fun hwf=>?_
 simp only [ARs.wf,AR.wf,AV.wf,AV.wfs,lm,lim] at hwf
 (repeat' ((conv=>whnf);first|refine gM ?_|fail))<;>try (conv=>whnf)
 refine ay [0,3] [] [7] ?_
 (conv=>whnf)
 refine au.go ((Nat)) (fun k=>(k<=l.length)) (fun k=>[(4,.data (i64 k))]) lE (fun k=>[(7,165,filled aB.av (.agg [.str ⟨#[]⟩,i64 0,.sl []]) l k,0)]) (fun k=>l.length - k) (0) ?_ ?_
 ·exact Nat.zero_le _
 rintro k hk
 (repeat' ((conv=>whnf);first|with_reducible refine Idx.mk k (.agg [.str ⟨#[]⟩,i64 0,.sl []]) rfl (dX (by omega)) ?_|refine gA ?_|(refine gB ?_ ?_<;>intro h)|(refine gI ?_;intro x hx)|refine gC (MZ x) ?_|intro _))<;>try (conv=>whnf)
 ·refine nw (k+1) ?_ ?_
  ·(repeat' ((conv=>whnf)<;>(first|exact trivial|exact rfl|with_reducible refine And.intro ?_ ?_)))<;>((conv=>whnf)<;>(exact dY hx rfl))
  exact (by omega:k+1<=l.length)
 ·refine⟨?_,rfl,trivial⟩
  dsimp only
  rw [dZ (by omega)]
theorem Yy (x:Link):Con 138 [.d x.av] (.d x.av):=by
 refine con Tryz.func138 rfl rfl Tryz.call138 rfl fun hwf=>?_
 try (conv=>whnf)
 exact⟨rfl,rfl,trivial⟩
theorem VJ (l:List Link):Con 66 [.d (.sl (l.map Link.av))] (.d (.sl (l.map Link.av))):=by
 refine con Tryz.func66 rfl rfl Tryz.call66 rfl fun hwf=>?_
 simp only [ARs.wf,AR.wf,AV.wf,AV.wfs,lm,lim] at hwf
 (repeat' ((conv=>whnf);first|refine gM ?_|fail))<;>try (conv=>whnf)
 refine ay [0,3] [] [7] ?_
 (conv=>whnf)
 refine au.go ((Nat)) (fun k=>(k<=l.length)) (fun k=>[(4,.data (i64 k))]) lE (fun k=>[(7,173,filled Link.av (.agg [i64 0,i64 0,.bool false,i64 0]) l k,0)]) (fun k=>l.length - k) (0) ?_ ?_
 ·exact Nat.zero_le _
 rintro k hk
 (repeat' ((conv=>whnf);first|with_reducible refine Idx.mk k (.agg [i64 0,i64 0,.bool false,i64 0]) rfl (dX (by omega)) ?_|refine gA ?_|(refine gB ?_ ?_<;>intro h)|(refine gI ?_;intro x hx)|refine gC (Yy x) ?_|intro _))<;>try (conv=>whnf)
 ·refine nw (k+1) ?_ ?_
  ·(repeat' ((conv=>whnf)<;>(first|exact trivial|exact rfl|with_reducible refine And.intro ?_ ?_)))<;>((conv=>whnf)<;>(exact dY hx rfl))
  exact (by omega:k+1<=l.length)
 ·refine⟨?_,rfl,trivial⟩
  dsimp only
  rw [dZ (by omega)]
theorem Na (x:aK):Con 139 [.d x.av] (.d x.av):=by
 refine con Tryz.func139 rfl rfl Tryz.call139 rfl fun hwf=>?_
 (repeat' ((conv=>whnf);first|refine gA ?_|refine gC (VH x.steps) ?_|refine gC (JL x.setup) ?_|intro _))
 exact⟨rfl,rfl,trivial⟩
theorem KX (l:List aK):Con 67 [.d (.sl (l.map aK.av))] (.d (.sl (l.map aK.av))):=by
 refine con Tryz.func67 rfl rfl Tryz.call67 rfl fun hwf=>?_
 simp only [ARs.wf,AR.wf,AV.wf,AV.wfs,lm,lim] at hwf
 (repeat' ((conv=>whnf);first|refine gM ?_|fail))<;>try (conv=>whnf)
 refine ay [0,3] [] [7] ?_
 (conv=>whnf)
 refine au.go ((Nat)) (fun k=>(k<=l.length)) (fun k=>[(4,.data (i64 k))]) lE (fun k=>[(7,170,filled aK.av (.agg [.sl [],.sl []]) l k,0)]) (fun k=>l.length - k) (0) ?_ ?_
 ·exact Nat.zero_le _
 rintro k hk
 (repeat' ((conv=>whnf);first|with_reducible refine Idx.mk k (.agg [.sl [],.sl []]) rfl (dX (by omega)) ?_|refine gA ?_|(refine gB ?_ ?_<;>intro h)|(refine gI ?_;intro x hx)|refine gC (Na x) ?_|intro _))<;>try (conv=>whnf)
 ·refine nw (k+1) ?_ ?_
  ·(repeat' ((conv=>whnf)<;>(first|exact trivial|exact rfl|with_reducible refine And.intro ?_ ?_)))<;>((conv=>whnf)<;>(exact dY hx rfl))
  exact (by omega:k+1<=l.length)
 ·refine⟨?_,rfl,trivial⟩
  dsimp only
  rw [dZ (by omega)]
theorem Qu (x:Proj):Con 21 [.d x.av] (.d x.av):=by
 refine con Tryz.func21 rfl rfl Tryz.call21 rfl fun hwf=>?_
 (repeat' ((conv=>whnf);first|refine gA ?_|refine gC (KW x.acts) ?_|refine gC (VJ x.links) ?_|refine gC (KX x.aS) ?_|refine gC (qP x.aH) ?_|intro _))
 exact⟨rfl,rfl,trivial⟩
theorem Yz (x:Rul):Con 140 [.d x.av] (.d x.av):=by
 refine con Tryz.func140 rfl rfl Tryz.call140 rfl fun hwf=>?_
 try (conv=>whnf)
 exact⟨rfl,rfl,trivial⟩
theorem Qv (x:Lit):Con 70 [.d x.av] (.d x.av):=by
 refine con Tryz.func70 rfl rfl Tryz.call70 rfl fun hwf=>?_
 try (conv=>whnf)
 exact⟨rfl,rfl,trivial⟩
theorem BG (l:List Lit):Con 23 [.d (.sl (l.map Lit.av))] (.d (.sl (l.map Lit.av))):=by
 refine con Tryz.func23 rfl rfl Tryz.call23 rfl fun hwf=>?_
 simp only [ARs.wf,AR.wf,AV.wf,AV.wfs,lm,lim] at hwf
 (repeat' ((conv=>whnf);first|refine gM ?_|fail))<;>try (conv=>whnf)
 refine ay [0,3] [] [7] ?_
 (conv=>whnf)
 refine au.go ((Nat)) (fun k=>(k<=l.length)) (fun k=>[(4,.data (i64 k))]) lE (fun k=>[(7,102,filled Lit.av (.agg [i64 0,i64 0,i64 0]) l k,0)]) (fun k=>l.length - k) (0) ?_ ?_
 ·exact Nat.zero_le _
 rintro k hk
 (repeat' ((conv=>whnf);first|with_reducible refine Idx.mk k (.agg [i64 0,i64 0,i64 0]) rfl (dX (by omega)) ?_|refine gA ?_|(refine gB ?_ ?_<;>intro h)|(refine gI ?_;intro x hx)|refine gC (Qv x) ?_|intro _))<;>try (conv=>whnf)
 ·refine nw (k+1) ?_ ?_
  ·(repeat' ((conv=>whnf)<;>(first|exact trivial|exact rfl|with_reducible refine And.intro ?_ ?_)))<;>((conv=>whnf)<;>(exact dY hx rfl))
  exact (by omega:k+1<=l.length)
 ·refine⟨?_,rfl,trivial⟩
  dsimp only
  rw [dZ (by omega)]
theorem RB (x:Dom):Con 22 [.d x.av] (.d x.av):=by
 refine con Tryz.func22 rfl rfl Tryz.call22 rfl fun hwf=>?_
 (repeat' ((conv=>whnf);first|refine gA ?_|refine gC (qP x.lo) ?_|refine gC (qP x.hi) ?_|refine gC (JL x.modes) ?_|intro _))
 exact⟨rfl,rfl,trivial⟩
theorem YA (x:Lin):Con 71 [.d x.av] (.d x.av):=by
 refine con Tryz.func71 rfl rfl Tryz.call71 rfl fun hwf=>?_
 (repeat' ((conv=>whnf);first|refine gA ?_|refine gC (Yz x.rule) ?_|refine gC (BG x.clause) ?_|intro _))
 exact⟨rfl,rfl,trivial⟩
theorem VK (l:List Lin):Con 24 [.d (.sl (l.map Lin.av))] (.d (.sl (l.map Lin.av))):=by
 refine con Tryz.func24 rfl rfl Tryz.call24 rfl fun hwf=>?_
 simp only [ARs.wf,AR.wf,AV.wf,AV.wfs,lm,lim] at hwf
 (repeat' ((conv=>whnf);first|refine gM ?_|fail))<;>try (conv=>whnf)
 refine ay [0,3] [] [7] ?_
 (conv=>whnf)
 refine au.go ((Nat)) (fun k=>(k<=l.length)) (fun k=>[(4,.data (i64 k))]) lE (fun k=>[(7,130,filled Lin.av (.agg [i64 0,i64 0,i64 0,i64 0,i64 0,.sl []]) l k,0)]) (fun k=>l.length - k) (0) ?_ ?_
 ·exact Nat.zero_le _
 rintro k hk
 (repeat' ((conv=>whnf);first|with_reducible refine Idx.mk k (.agg [i64 0,i64 0,i64 0,i64 0,i64 0,.sl []]) rfl (dX (by omega)) ?_|refine gA ?_|(refine gB ?_ ?_<;>intro h)|(refine gI ?_;intro x hx)|refine gC (YA x) ?_|intro _))<;>try (conv=>whnf)
 ·refine nw (k+1) ?_ ?_
  ·(repeat' ((conv=>whnf)<;>(first|exact trivial|exact rfl|with_reducible refine And.intro ?_ ?_)))<;>((conv=>whnf)<;>(exact dY hx rfl))
  exact (by omega:k+1<=l.length)
 ·refine⟨?_,rfl,trivial⟩
  dsimp only
  rw [dZ (by omega)]
open Go.Proofs
theorem mO (l:List Int):Con 94 [.d (.sl (l.map i64)),.d (.sl (l.map i64))] (.d (.bool true)):=by
 refine con Tryz.func94 rfl rfl Tryz.call94 rfl fun hwf=>?_
 simp only [ARs.wf,AR.wf,AV.wf,AV.wfs,lm,lim] at hwf
 (repeat' ((conv=>whnf);first|(with_reducible refine Br.yes (decide_eq_true rfl) ?_)|refine gA ?_))<;>try (conv=>whnf)
 refine ay [0,1] [] [] ?_
 (conv=>whnf)
 refine au.go ((Nat)) (fun k=>(k<=l.length)) (fun k=>[(5,.data (i64 k))]) lE lE (fun k=>l.length - k) (0) ?_ ?_
 ·exact Nat.zero_le _
 rintro k hk
 by_cases hlt:k < l.length
 ·obtain⟨x,hx⟩:∃x,l[k]? =some x:=⟨l[k]'hlt,by simp⟩
  (repeat' ((conv=>whnf);first|with_reducible refine Idx.got hx rfl ?_|(with_reducible refine Br.yes (decide_eq_true rfl) ?_)|refine gAV ?_|(refine gB ?_ ?_<;>intro h)))<;>try (conv=>whnf)
  all_goals first
   |(exfalso;omega)
   |(refine nx (k+1) ?_
     exact (by omega:k+1<=l.length))
 ·(repeat' ((conv=>whnf);first|(exfalso;omega)|(refine gB ?_ ?_<;>intro h)))<;>try (conv=>whnf)
  exact⟨rfl,rfl,trivial⟩
theorem JM (l:List (List Int)):Con 98 [.d (.sl (l.map ints)),.d (.sl (l.map ints))] (.d (.bool true)):=by
 refine con Tryz.func98 rfl rfl Tryz.call98 rfl fun hwf=>?_
 simp only [ARs.wf,AR.wf,AV.wf,AV.wfs,lm,lim] at hwf
 (repeat' ((conv=>whnf);first|(with_reducible refine Br.yes (decide_eq_true rfl) ?_)|refine gA ?_))<;>try (conv=>whnf)
 refine ay [0,1] [] [] ?_
 (conv=>whnf)
 refine au.go ((Nat)) (fun k=>(k<=l.length)) (fun k=>[(5,.data (i64 k))]) lE lE (fun k=>l.length - k) (0) ?_ ?_
 ·exact Nat.zero_le _
 rintro k hk
 by_cases hlt:k < l.length
 ·obtain⟨x,hx⟩:∃x,l[k]? =some x:=⟨l[k]'hlt,by simp⟩
  (repeat' ((conv=>whnf);first|with_reducible refine Idx.got hx rfl ?_|refine gAV ?_|(refine gB ?_ ?_<;>intro h)|refine gC (mO x) ?_|intro _))<;>try (conv=>whnf)
  all_goals first
   |(exfalso;omega)
   |(refine nx (k+1) ?_
     exact (by omega:k+1<=l.length))
 ·(repeat' ((conv=>whnf);first|(exfalso;omega)|(refine gB ?_ ?_<;>intro h)))<;>try (conv=>whnf)
  exact⟨rfl,rfl,trivial⟩
theorem YB (x:Step):Con 322 [.d x.av,.d x.av] (.d (.bool true)):=by
 refine con Tryz.func322 rfl rfl Tryz.call322 rfl fun hwf=>?_
 (repeat' ((conv=>whnf);first|(with_reducible refine Br.yes (decide_eq_true rfl) ?_)|refine gA ?_))
 all_goals exact⟨rfl,rfl,trivial⟩
theorem VL (l:List Step):Con 251 [.d (.sl (l.map Step.av)),.d (.sl (l.map Step.av))] (.d (.bool true)):=by
 refine con Tryz.func251 rfl rfl Tryz.call251 rfl fun hwf=>?_
 simp only [ARs.wf,AR.wf,AV.wf,AV.wfs,lm,lim] at hwf
 (repeat' ((conv=>whnf);first|(with_reducible refine Br.yes (decide_eq_true rfl) ?_)|refine gA ?_))<;>try (conv=>whnf)
 refine ay [0,1] [] [] ?_
 (conv=>whnf)
 refine au.go ((Nat)) (fun k=>(k<=l.length)) (fun k=>[(5,.data (i64 k))]) lE lE (fun k=>l.length - k) (0) ?_ ?_
 ·exact Nat.zero_le _
 rintro k hk
 by_cases hlt:k < l.length
 ·obtain⟨x,hx⟩:∃x,l[k]? =some x:=⟨l[k]'hlt,by simp⟩
  (repeat' ((conv=>whnf);first|with_reducible refine Idx.got hx rfl ?_|refine gAV ?_|(refine gB ?_ ?_<;>intro h)|refine gC (YB x) ?_|intro _))<;>try (conv=>whnf)
  all_goals first
   |(exfalso;omega)
   |(refine nx (k+1) ?_
     exact (by omega:k+1<=l.length))
 ·(repeat' ((conv=>whnf);first|(exfalso;omega)|(refine gB ?_ ?_<;>intro h)))<;>try (conv=>whnf)
  exact⟨rfl,rfl,trivial⟩
theorem YC (x:Mode):Con 321 [.d x.av,.d x.av] (.d (.bool true)):=by
 refine con Tryz.func321 rfl rfl Tryz.call321 rfl fun hwf=>?_
 (repeat' ((conv=>whnf);first|(with_reducible refine Br.yes (decide_eq_true rfl) ?_)|refine gA ?_|refine gC (mO x.use) ?_|refine gC (mO x.con) ?_|intro _))
 all_goals exact⟨rfl,rfl,trivial⟩
theorem VN (l:List Mode):Con 250 [.d (.sl (l.map Mode.av)),.d (.sl (l.map Mode.av))] (.d (.bool true)):=by
 refine con Tryz.func250 rfl rfl Tryz.call250 rfl fun hwf=>?_
 simp only [ARs.wf,AR.wf,AV.wf,AV.wfs,lm,lim] at hwf
 (repeat' ((conv=>whnf);first|(with_reducible refine Br.yes (decide_eq_true rfl) ?_)|refine gA ?_))<;>try (conv=>whnf)
 refine ay [0,1] [] [] ?_
 (conv=>whnf)
 refine au.go ((Nat)) (fun k=>(k<=l.length)) (fun k=>[(5,.data (i64 k))]) lE lE (fun k=>l.length - k) (0) ?_ ?_
 ·exact Nat.zero_le _
 rintro k hk
 by_cases hlt:k < l.length
 ·obtain⟨x,hx⟩:∃x,l[k]? =some x:=⟨l[k]'hlt,by simp⟩
  (repeat' ((conv=>whnf);first|with_reducible refine Idx.got hx rfl ?_|refine gAV ?_|(refine gB ?_ ?_<;>intro h)|refine gC (YC x) ?_|intro _))<;>try (conv=>whnf)
  all_goals first
   |(exfalso;omega)
   |(refine nx (k+1) ?_
     exact (by omega:k+1<=l.length))
 ·(repeat' ((conv=>whnf);first|(exfalso;omega)|(refine gB ?_ ?_<;>intro h)))<;>try (conv=>whnf)
  exact⟨rfl,rfl,trivial⟩
theorem Nb (x:aB):Con 178 [.d x.av,.d x.av] (.d (.bool true)):=by
 refine con Tryz.func178 rfl rfl Tryz.call178 rfl fun hwf=>?_
 (repeat' ((conv=>whnf);first|(with_reducible refine Br.yes (decide_eq_true rfl) ?_)|refine gA ?_|refine gC (VN x.modes) ?_|intro _))
 all_goals exact⟨rfl,rfl,trivial⟩
theorem KY (l:List aB):Con 95 [.d (.sl (l.map aB.av)),.d (.sl (l.map aB.av))] (.d (.bool true)):=by
 refine con Tryz.func95 rfl rfl Tryz.call95 rfl fun hwf=>?_
 simp only [ARs.wf,AR.wf,AV.wf,AV.wfs,lm,lim] at hwf
 (repeat' ((conv=>whnf);first|(with_reducible refine Br.yes (decide_eq_true rfl) ?_)|refine gA ?_))<;>try (conv=>whnf)
 refine ay [0,1] [] [] ?_
 (conv=>whnf)
 refine au.go ((Nat)) (fun k=>(k<=l.length)) (fun k=>[(5,.data (i64 k))]) lE lE (fun k=>l.length - k) (0) ?_ ?_
 ·exact Nat.zero_le _
 rintro k hk
 by_cases hlt:k < l.length
 ·obtain⟨x,hx⟩:∃x,l[k]? =some x:=⟨l[k]'hlt,by simp⟩
  (repeat' ((conv=>whnf);first|with_reducible refine Idx.got hx rfl ?_|refine gAV ?_|(refine gB ?_ ?_<;>intro h)|refine gC (Nb x) ?_|intro _))<;>try (conv=>whnf)
  all_goals first
   |(exfalso;omega)
   |(refine nx (k+1) ?_
     exact (by omega:k+1<=l.length))
 ·(repeat' ((conv=>whnf);first|(exfalso;omega)|(refine gB ?_ ?_<;>intro h)))<;>try (conv=>whnf)
  exact⟨rfl,rfl,trivial⟩
theorem YD (x:Link):Con 179 [.d x.av,.d x.av] (.d (.bool true)):=by
 refine con Tryz.func179 rfl rfl Tryz.call179 rfl fun hwf=>?_
 (repeat' ((conv=>whnf);first|(with_reducible refine Br.yes (decide_eq_true rfl) ?_)|refine gA ?_))
 all_goals exact⟨rfl,rfl,trivial⟩
theorem VO (l:List Link):Con 96 [.d (.sl (l.map Link.av)),.d (.sl (l.map Link.av))] (.d (.bool true)):=by
 refine con Tryz.func96 rfl rfl Tryz.call96 rfl fun hwf=>?_
 simp only [ARs.wf,AR.wf,AV.wf,AV.wfs,lm,lim] at hwf
 (repeat' ((conv=>whnf);first|(with_reducible refine Br.yes (decide_eq_true rfl) ?_)|refine gA ?_))<;>try (conv=>whnf)
 refine ay [0,1] [] [] ?_
 (conv=>whnf)
 refine au.go ((Nat)) (fun k=>(k<=l.length)) (fun k=>[(5,.data (i64 k))]) lE lE (fun k=>l.length - k) (0) ?_ ?_
 ·exact Nat.zero_le _
 rintro k hk
 by_cases hlt:k < l.length
 ·obtain⟨x,hx⟩:∃x,l[k]? =some x:=⟨l[k]'hlt,by simp⟩
  (repeat' ((conv=>whnf);first|with_reducible refine Idx.got hx rfl ?_|refine gAV ?_|(refine gB ?_ ?_<;>intro h)|refine gC (YD x) ?_|intro _))<;>try (conv=>whnf)
  all_goals first
   |(exfalso;omega)
   |(refine nx (k+1) ?_
     exact (by omega:k+1<=l.length))
 ·(repeat' ((conv=>whnf);first|(exfalso;omega)|(refine gB ?_ ?_<;>intro h)))<;>try (conv=>whnf)
  exact⟨rfl,rfl,trivial⟩
theorem Nc (x:aK):Con 180 [.d x.av,.d x.av] (.d (.bool true)):=by
 refine con Tryz.func180 rfl rfl Tryz.call180 rfl fun hwf=>?_
 (repeat' ((conv=>whnf);first|refine gA ?_|refine gC (VL x.steps) ?_|refine gC (JM x.setup) ?_|intro _))
 all_goals exact⟨rfl,rfl,trivial⟩
theorem KZ (l:List aK):Con 97 [.d (.sl (l.map aK.av)),.d (.sl (l.map aK.av))] (.d (.bool true)):=by
 refine con Tryz.func97 rfl rfl Tryz.call97 rfl fun hwf=>?_
 simp only [ARs.wf,AR.wf,AV.wf,AV.wfs,lm,lim] at hwf
 (repeat' ((conv=>whnf);first|(with_reducible refine Br.yes (decide_eq_true rfl) ?_)|refine gA ?_))<;>try (conv=>whnf)
 refine ay [0,1] [] [] ?_
 (conv=>whnf)
 refine au.go ((Nat)) (fun k=>(k<=l.length)) (fun k=>[(5,.data (i64 k))]) lE lE (fun k=>l.length - k) (0) ?_ ?_
 ·exact Nat.zero_le _
 rintro k hk
 by_cases hlt:k < l.length
 ·obtain⟨x,hx⟩:∃x,l[k]? =some x:=⟨l[k]'hlt,by simp⟩
  (repeat' ((conv=>whnf);first|with_reducible refine Idx.got hx rfl ?_|refine gAV ?_|(refine gB ?_ ?_<;>intro h)|refine gC (Nc x) ?_|intro _))<;>try (conv=>whnf)
  all_goals first
   |(exfalso;omega)
   |(refine nx (k+1) ?_
     exact (by omega:k+1<=l.length))
 ·(repeat' ((conv=>whnf);first|(exfalso;omega)|(refine gB ?_ ?_<;>intro h)))<;>try (conv=>whnf)
  exact⟨rfl,rfl,trivial⟩
theorem Qw (x:Proj):Con 32 [.d x.av,.d x.av] (.d (.bool true)):=by
 refine con Tryz.func32 rfl rfl Tryz.call32 rfl fun hwf=>?_
 (repeat' ((conv=>whnf);first|(with_reducible refine Br.yes (decide_eq_true rfl) ?_)|refine gA ?_|refine gC (KY x.acts) ?_|refine gC (VO x.links) ?_|refine gC (KZ x.aS) ?_|refine gC (mO x.aH) ?_|intro _))
 all_goals exact⟨rfl,rfl,trivial⟩
theorem Nf (x:bB):Con 31 [.d x.av,.d x.av] (.d (.bool true)):=by
 refine con Tryz.func31 rfl rfl Tryz.call31 rfl fun hwf=>?_
 (repeat' ((conv=>whnf);first|refine gA ?_|refine gC (mO x.starts) ?_|refine gC (mO x.modes) ?_|intro _))
 all_goals exact⟨rfl,rfl,trivial⟩
theorem YE (x:Rul):Con 181 [.d x.av,.d x.av] (.d (.bool true)):=by
 refine con Tryz.func181 rfl rfl Tryz.call181 rfl fun hwf=>?_
 (repeat' ((conv=>whnf);first|(with_reducible refine Br.yes (decide_eq_true rfl) ?_)|refine gA ?_))
 all_goals exact⟨rfl,rfl,trivial⟩
theorem Qx (x:Lit):Con 99 [.d x.av,.d x.av] (.d (.bool true)):=by
 refine con Tryz.func99 rfl rfl Tryz.call99 rfl fun hwf=>?_
 (repeat' ((conv=>whnf);first|(with_reducible refine Br.yes (decide_eq_true rfl) ?_)|refine gA ?_))
 all_goals exact⟨rfl,rfl,trivial⟩
theorem BH (l:List Lit):Con 34 [.d (.sl (l.map Lit.av)),.d (.sl (l.map Lit.av))] (.d (.bool true)):=by
 refine con Tryz.func34 rfl rfl Tryz.call34 rfl fun hwf=>?_
 simp only [ARs.wf,AR.wf,AV.wf,AV.wfs,lm,lim] at hwf
 (repeat' ((conv=>whnf);first|(with_reducible refine Br.yes (decide_eq_true rfl) ?_)|refine gA ?_))<;>try (conv=>whnf)
 refine ay [0,1] [] [] ?_
 (conv=>whnf)
 refine au.go ((Nat)) (fun k=>(k<=l.length)) (fun k=>[(5,.data (i64 k))]) lE lE (fun k=>l.length - k) (0) ?_ ?_
 ·exact Nat.zero_le _
 rintro k hk
 by_cases hlt:k < l.length
 ·obtain⟨x,hx⟩:∃x,l[k]? =some x:=⟨l[k]'hlt,by simp⟩
  (repeat' ((conv=>whnf);first|with_reducible refine Idx.got hx rfl ?_|refine gAV ?_|(refine gB ?_ ?_<;>intro h)|refine gC (Qx x) ?_|intro _))<;>try (conv=>whnf)
  all_goals first
   |(exfalso;omega)
   |(refine nx (k+1) ?_
     exact (by omega:k+1<=l.length))
 ·(repeat' ((conv=>whnf);first|(exfalso;omega)|(refine gB ?_ ?_<;>intro h)))<;>try (conv=>whnf)
  exact⟨rfl,rfl,trivial⟩
theorem RD (x:Dom):Con 33 [.d x.av,.d x.av] (.d (.bool true)):=by
 refine con Tryz.func33 rfl rfl Tryz.call33 rfl fun hwf=>?_
 (repeat' ((conv=>whnf);first|refine gA ?_|refine gC (mO x.lo) ?_|refine gC (mO x.hi) ?_|refine gC (JM x.modes) ?_|intro _))
 all_goals exact⟨rfl,rfl,trivial⟩
theorem YF (x:Lin):Con 100 [.d x.av,.d x.av] (.d (.bool true)):=by
 refine con Tryz.func100 rfl rfl Tryz.call100 rfl fun hwf=>?_
 (repeat' ((conv=>whnf);first|(with_reducible refine Br.yes (decide_eq_true rfl) ?_)|refine gA ?_|refine gC (YE x.rule) ?_|refine gC (BH x.clause) ?_|intro _))
 all_goals exact⟨rfl,rfl,trivial⟩
theorem VP (l:List Lin):Con 35 [.d (.sl (l.map Lin.av)),.d (.sl (l.map Lin.av))] (.d (.bool true)):=by
 refine con Tryz.func35 rfl rfl Tryz.call35 rfl fun hwf=>?_
 simp only [ARs.wf,AR.wf,AV.wf,AV.wfs,lm,lim] at hwf
 (repeat' ((conv=>whnf);first|(with_reducible refine Br.yes (decide_eq_true rfl) ?_)|refine gA ?_))<;>try (conv=>whnf)
 refine ay [0,1] [] [] ?_
 (conv=>whnf)
 refine au.go ((Nat)) (fun k=>(k<=l.length)) (fun k=>[(5,.data (i64 k))]) lE lE (fun k=>l.length - k) (0) ?_ ?_
 ·exact Nat.zero_le _
 rintro k hk
 by_cases hlt:k < l.length
 ·obtain⟨x,hx⟩:∃x,l[k]? =some x:=⟨l[k]'hlt,by simp⟩
  (repeat' ((conv=>whnf);first|with_reducible refine Idx.got hx rfl ?_|refine gAV ?_|(refine gB ?_ ?_<;>intro h)|refine gC (YF x) ?_|intro _))<;>try (conv=>whnf)
  all_goals first
   |(exfalso;omega)
   |(refine nx (k+1) ?_
     exact (by omega:k+1<=l.length))
 ·(repeat' ((conv=>whnf);first|(exfalso;omega)|(refine gB ?_ ?_<;>intro h)))<;>try (conv=>whnf)
  exact⟨rfl,rfl,trivial⟩
end Go.Proofs.YthegbfgeochckaaGreat.Abs
