/- Part of a proof. -/
import Derived.Test.YthegbfgeochckaaGreatC27
import Derived.Test.YthegbfgeochckaaGreatC20a
set_option linter.all false
set_option maxRecDepth 20000
set_option maxHeartbeats 0
namespace Go.Proofs.YthegbfgeochckaaGreat.Abs
open Go.Proofs
def MH:Bool->Int->List Int->Int
 |_,n,[]=>n
 |b,n,x::r=>MH false (if b=true\/x > n then x else n) r
def AJ (a:aB) (ms:List Int):Int:=MH true 0 ((chosen a ms).map Mode.dur)
theorem Pv {c:Int}:∀(l:List Int) (b:Bool) (n:Int),(0<=n/\n<=c)->(∀x∈l,0<=x/\x<=c)->0<=MH b n l/\MH b n l<=c
 |[],_,n,h,_=>h
 |x::r,b,n,h,h'=>by
  rw [MH]
  refine Pv r false _ ?_ fun y hy=>h' y (by simp [hy])
  split
  ·exact h' x (by simp)
  ·exact h
theorem Jl {a:aB} {r s:Int} (h:dV a r s=true) (ms:List Int):0<=AJ a ms/\AJ a ms<=12:=by
 refine Pv _ _ _ (by omega) fun x hx=>?_
 obtain⟨m,hm,rfl⟩:=List.mem_map.1 hx
 have:=(mQ h (Aj hm)).1
 omega
theorem KF (a:aB) (ms:List Int):Con 339 [.d a.av,.d (ints ms)] (.d (i64 (AJ a ms))):=by
 refine con Tryz.func339 rfl rfl Tryz.call339 rfl fun hwf=>?_
 simp only [ARs.wf,AR.wf,AV.wf,AV.wfs,lm,lim] at hwf
 have hl:=Ox a ms
 (repeat' ((conv=>whnf);first|refine gA ?_|refine gC (xR a ms) ?_|intro _))<;>try (conv=>whnf)
 refine ay [10,11] [] [] ?_
 (conv=>whnf)
 refine au.go ((Nat)×(Int)) (fun⟨k,n⟩=>(k<=(chosen a ms).length)/\(MH (decide ((k:Int)=0)) n (((chosen a ms).drop k).map Mode.dur)=AJ a ms)) (fun⟨k,n⟩=>[(12,.data (i64 k)),(5,.data (i64 n))]) lE lE (fun⟨k,n⟩=>(chosen a ms).length - k) ⟨0,0⟩ ?_ ?_
 ·exact⟨by omega,rfl⟩
 rintro⟨k,n⟩ ⟨hk,hi⟩
 (repeat' ((conv=>whnf);first|refine gA ?_|(refine gB ?_ ?_<;>intro h)|(refine gI ?_;intro x hx)))<;>try (conv=>whnf)
 ·refine nx ⟨k+1,x.dur⟩ ?_
  rw [aA hx,List.map_cons,MH,if_pos (.inl (by simp [h]))] at hi
  exact⟨by omega,by rw [decide_eq_false (show ¬((k+1:Nat):Int)=0 by omega)];exact hi⟩
 ·refine nx ⟨k+1,x.dur⟩ ?_
  rw [aA hx,List.map_cons,MH,if_pos (.inr h)] at hi
  exact⟨by omega,by rw [decide_eq_false (show ¬((k+1:Nat):Int)=0 by omega)];exact hi⟩
 ·refine nx ⟨k+1,n⟩ ?_
  rw [aA hx,List.map_cons,MH,if_neg (by rw [decide_eq_true_eq];omega)] at hi
  exact⟨by omega,by rw [decide_eq_false (show ¬((k+1:Nat):Int)=0 by omega)];exact hi⟩
 ·refine⟨?_,rfl,trivial⟩
  rw [<- hi,aG (by assumption)];rfl
theorem KG (a:aB) (ms:List Int):Con 324 [.d a.av,.d (ints ms)] (.d (i64 (AJ a ms))):=by
 refine con Tryz.func324 rfl rfl Tryz.call324 rfl fun hwf=>?_
 simp only [ARs.wf,AR.wf,AV.wf,AV.wfs,lm,lim] at hwf
 try (conv=>whnf)
 refine ay [1,10,11] [] [] ?_
 (conv=>whnf)
 refine au.go ((Nat)×(Int)×(Bool)) (fun⟨k,n,b⟩=>(k<=a.modes.length)/\(MH (!b) n ((bW ms (a.modes.drop k) k).map Mode.dur)=AJ a ms)) (fun⟨k,n,b⟩=>[(12,.data (i64 k)),(5,.data (i64 n)),(6,.data (.bool b))]) lE lE (fun⟨k,n,b⟩=>a.modes.length - k) ⟨0,0,false⟩ ?_ ?_
 ·exact⟨by omega,rfl⟩
 rintro⟨k,n,b⟩ ⟨hk,hi⟩
 (repeat' ((conv=>whnf);first|refine gA ?_|(refine gB ?_ ?_<;>intro h)|(refine gI ?_;intro x hx)|refine gC (gT ms _) ?_|intro _))<;>try (conv=>whnf)
 all_goals first
  |(refine⟨?_,rfl,trivial⟩;rw [<- hi,aG (by assumption)];rfl)
  |(refine nx ⟨k+1,x.dur,true⟩ ?_
    refine⟨by omega,?_⟩
    rw [aA hx,bW,if_pos (by assumption),List.map_cons,MH,if_pos (by simp [*])] at hi
    exact hi)
  |(refine nx ⟨k+1,n,b⟩ ?_
    refine⟨by omega,?_⟩
    rw [aA hx,bW,if_neg (Bool.eq_false_iff.1 (by assumption))] at hi
    exact hi)
  |(refine nx ⟨k+1,n,b⟩ ?_
    refine⟨by omega,?_⟩
    rw [aA hx,bW,if_pos (by assumption),List.map_cons,MH,if_neg (by simp [*])] at hi
    rw [<- hi];simp [*])
def Vj (p:Proj) (b:Dom) (i:Nat):Int:=b.hi.getD i 0+AJ (nQ p i) (b.modes.getD i [])
def jY (p:Proj) (b:Dom) (k:Nat):List Int:=(List.range k).map (Vj p b)
abbrev adV (p:Proj) (b:Dom):List Int:=setOf (jY p b p.acts.length)
def KH (x y:Int):Bool:=cu x&&cu y&&decide (x < y)
def XM (p:Proj) (b:Dom) (x:Int):List (List Int):=((adV p b).filter (KH x)).map fun y=>[x,y]
def intervals (p:Proj) (b:Dom):List (List Int):=if usable p b=true then (setOf b.lo).flatMap (XM p b) else []
theorem Tk {p:Proj} {b:Dom} {k:Nat} {a:aB} {x y:Int} {m:List Int} (g:eG p b k a x y m):Vj p b k=y+AJ a m:=by
 simp [Vj,nQ,List.getD_eq_getElem?_getD,g.act,g.hi,g.modes]
theorem Pw (p:Proj) (b:Dom) (k:Nat):jY p b (k+1)=jY p b k++[Vj p b k]:=by simp [jY,List.range_succ]
theorem KI (p:Proj) (b:Dom) (k:Nat):(jY p b k).length=k:=by simp [jY]
theorem Tm {α β:Type} {f:α->List β} {l:List α} {k:Nat} {x:α} {o:List β} (ho:o=(l.take k).flatMap f) (h:l[k]? =some x):o++f x=(l.take (k+1)).flatMap f:=by
 obtain⟨hk,rfl⟩:=List.getElem?_eq_some_iff.1 h
 rw [ho,List.take_succ_eq_append_getElem hk,List.flatMap_append];simp
theorem fI {α β:Type} {f:α->Bool} {g:α->β} {l:List α} {k:Nat} {x:α} {q o:List β} (ho:o=q++((l.take k).filter f).map g) (h:l[k]? =some x):
  (f x=true->o++[g x]=q++((l.take (k+1)).filter f).map g)/\(f x=false->o=q++((l.take (k+1)).filter f).map g):=by
 obtain⟨hk,rfl⟩:=List.getElem?_eq_some_iff.1 h
 rw [List.take_succ_eq_append_getElem hk,List.filter_append]
 exact⟨fun hf=>by rw [ho];simp [hf],fun hf=>by rw [ho];simp [hf]⟩
theorem jH {p:Proj} {b:Dom} (h:usable p b=true):aW p b=true/\jB b=false:=by simpa [usable] using h
theorem qH (p:Proj) (b:Dom) (hp:p.fine):Con 206 [.d p.av,.d b.av] (.d (.bool (usable p b))):=by
 refine con Tryz.func206 rfl rfl Tryz.call206 rfl fun hwf=>?_
 (repeat' ((conv=>whnf);first|refine gA ?_|(refine gB ?_ ?_<;>intro h)|refine gC (dH p b hp) ?_|refine gC (fq b) ?_|intro _))
 all_goals refine⟨?_,rfl,trivial⟩
 all_goals simp [usable, *]
theorem Px (p:Proj) (b:Dom) (hp:p.fine):Con 289 [.d p.av,.d b.av] (.d (.sl ((intervals p b).map ints))):=by
 refine con Tryz.func289 rfl rfl Tryz.call289 rfl fun hwf=>?_
 cases hu:usable p b with
 |false=>
  (repeat' ((conv=>whnf);first|refine gA ?_|refine gC (jM p b hp) ?_|intro _))
  refine⟨?_,rfl,trivial⟩;rw [intervals,if_neg (by rw [hu];exact Bool.false_ne_true)];rfl
 |true=>
  rw [intervals,if_pos hu]
  have hf:=(jH hu).1
  obtain⟨hpo,l1,l2,l3,_⟩:=bA hf
  have hna:=(bX hpo).Cy
  have hel:=KI p b
  have hsl:=iI b.lo
  have hse:(setOf (jY p b p.acts.length)).length<=p.acts.length:=by have:=iI (jY p b p.acts.length);rw [hel] at this;exact this
  (repeat' ((conv=>whnf);first|refine gA ?_|refine gC (jM p b hp) ?_|intro _))
  refine ay [3,6,20,21] [3] [17] ?_
  (conv=>whnf)
  refine au.go ((Nat)) (fun k=>(k<=p.acts.length)) (fun k=>[(22,.data (i64 k)),(5,.own 17 0)]) lE (fun k=>[(17,3,(jY p b k).map i64,0)]) (fun k=>p.acts.length - k) (0) ?_ ?_
  ·exact Nat.zero_le _
  rintro k hk
  have hek:=hel k
  by_cases hlt:k < p.acts.length
  ·obtain⟨a,lo,up,m,g⟩:=dN hf hlt
   have h1:=g.hib
   have h2:=Jl g.aok m
   (repeat' ((conv=>whnf);first|(with_reducible first|refine Idx.got g.act rfl ?_|refine Idx.got g.hi rfl ?_|refine Idx.got g.modes rfl ?_)|refine gAX ?_|(refine gB ?_ ?_<;>intro h)|refine gC (KF a m) ?_|intro _))
   ·refine nw (k+1) ?_ ?_
    ·(repeat' ((conv=>whnf)<;>(first|exact trivial|exact rfl|with_reducible refine And.intro ?_ ?_)))<;>((conv=>whnf)<;>((rw [Pw,Tk g];simp)))
    exact (by omega:k+1<=p.acts.length)
   ·exfalso;omega
  (repeat' ((conv=>whnf);first|(exfalso;omega)|refine gA ?_|(refine gB ?_ ?_<;>intro h)|refine gC (tq b.lo) ?_|intro _))
  rw [show k=p.acts.length by omega]
  refine ay [46,47] [] [18] ?_
  (conv=>whnf)
  refine au.go ((Nat)×(List (List Int))) (fun⟨i,o⟩=>(i<=(setOf b.lo).length)/\(o.length<=6*i)/\(o=((setOf b.lo).take i).flatMap (XM p b))) (fun⟨i,o⟩=>[(48,.data (i64 i)),(5,.data (ints (jY p b p.acts.length))),(6,.own 18 0)]) lE (fun⟨i,o⟩=>[(18,25,o.map ints,0)]) (fun⟨i,o⟩=>(setOf b.lo).length - i) ⟨0,[]⟩ ?_ ?_
  ·exact⟨Nat.zero_le _,by simp,by simp⟩
  rintro⟨i,o⟩ ⟨hi,ol,ho⟩
  by_cases hil:i < (setOf b.lo).length
  rotate_left
  ·(repeat' ((conv=>whnf);first|(exfalso;omega)|(refine gB ?_ ?_<;>intro h)))
   refine⟨?_,rfl,trivial⟩
   rw [ho,List.take_of_length_le (by omega)]
  obtain⟨x0,hx0⟩:∃x0,(setOf b.lo)[i]? =some x0:=⟨(setOf b.lo)[i]'hil,by simp⟩
  (repeat' ((conv=>whnf);first|with_reducible refine Idx.got hx0 rfl ?_|refine gAX ?_|(refine gB ?_ ?_<;>intro h)|refine gC (tq (jY p b p.acts.length)) ?_|intro _))
  rotate_left
  ·exact trivial
  refine ay [5,10,46,47,48,53,54] [] [18] ?_
  (conv=>whnf)
  refine au.go ((Nat)×(List (List Int))) (fun⟨j,o2⟩=>(j<=(setOf (jY p b p.acts.length)).length)/\(o2.length<=6*i+j)/\(o2=o++(((setOf (jY p b p.acts.length)).take j).filter (KH x0)).map (fun y=>[x0,y]))) (fun⟨j,o2⟩=>[(55,.data (i64 j)),(6,.own 18 0)]) lE (fun⟨j,o2⟩=>[(18,25,o2.map ints,0)]) (fun⟨j,o2⟩=>(setOf (jY p b p.acts.length)).length - j) ⟨0,o⟩ ?_ ?_
  ·exact⟨Nat.zero_le _,by omega,by simp⟩
  rintro⟨j,o2⟩ ⟨hj,ol2,ho2⟩
  by_cases hjl:j < (setOf (jY p b p.acts.length)).length
  ·obtain⟨y0,hy0⟩:∃y0,(setOf (jY p b p.acts.length))[j]? =some y0:=⟨(setOf (jY p b p.acts.length))[j]'hjl,by simp⟩
   (repeat' ((conv=>whnf);first|with_reducible refine Idx.got hy0 rfl ?_|refine gAX ?_|(refine gN ?_ ?_<;>intro h hw)|(refine gB ?_ ?_<;>intro h)|refine gC (mK _) ?_|intro _))
   ·refine nwS ⟨j+1,o2++[[x0,y0]]⟩ ?_
    exact⟨by omega,by simp;omega,(fI ho2 hy0).1 (by simp [KH, *])⟩
   ·refine nx ⟨j+1,o2⟩ ?_
    exact⟨by omega,by omega,(fI ho2 hy0).2 (by simp [KH, *])⟩
   ·refine nx ⟨j+1,o2⟩ ?_
    exact⟨by omega,by omega,(fI ho2 hy0).2 (by simp [KH, *])⟩
   ·refine nx ⟨j+1,o2⟩ ?_
    exact⟨by omega,by omega,(fI ho2 hy0).2 (by simp [KH, *])⟩
   ·exfalso;omega
  ·(repeat' ((conv=>whnf);first|(exfalso;omega)|refine gA ?_|(refine gB ?_ ?_<;>intro h)))
   refine nx ⟨i+1,o2⟩ ?_
   refine⟨by omega,by omega,?_⟩
   rw [ho2,List.take_of_length_le (by omega)]
   exact Tm ho hx0
theorem Py (p:Proj) (b:Dom) (hp:p.fine):Con 259 [.d p.av,.d b.av] (.d (.sl ((intervals p b).map ints))):=by
 refine con Tryz.func259 rfl rfl Tryz.call259 rfl fun hwf=>?_
 cases hu:usable p b with
 |false=>
  (repeat' ((conv=>whnf);first|refine gA ?_|refine gC (qH p b hp) ?_|intro _))
  refine⟨?_,rfl,trivial⟩;rw [intervals,if_neg (by rw [hu];exact Bool.false_ne_true)];rfl
 |true=>
  rw [intervals,if_pos hu]
  have hf:=(jH hu).1
  obtain⟨hpo,l1,l2,l3,_⟩:=bA hf
  have hna:=(bX hpo).Cy
  have hel:=KI p b
  have hsl:=iI b.lo
  have hse:(setOf (jY p b p.acts.length)).length<=p.acts.length:=by have:=iI (jY p b p.acts.length);rw [hel] at this;exact this
  (repeat' ((conv=>whnf);first|refine gA ?_|refine gC (qH p b hp) ?_|intro _))
  refine ay [2,3,5,20] [2,3] [] ?_
  (conv=>whnf)
  refine au.go ((Nat)) (fun k=>(k<=p.acts.length)) (fun k=>[(21,.data (i64 k)),(6,.data (ints (setOf (jY p b k))))]) lE lE (fun k=>p.acts.length - k) (0) ?_ ?_
  ·exact Nat.zero_le _
  rintro k hk
  have hek:=hel k
  have hsk:=iI (jY p b k)
  by_cases hlt:k < p.acts.length
  ·obtain⟨a,lo,up,m,g⟩:=dN hf hlt
   have h1:=g.hib
   have h2:=Jl g.aok m
   have hs1:(setOf (jY p b k)).length < lim:=by unfold lim;omega
   (repeat' ((conv=>whnf);first|(with_reducible first|refine Idx.got g.act rfl ?_|refine Idx.got g.hi rfl ?_|refine Idx.got g.modes rfl ?_)|refine gA ?_|(refine gB ?_ ?_<;>intro h)|refine gC (KG a m) ?_|refine gC (Db (setOf (jY p b k)) (up+AJ a m) hs1) ?_|intro _))
   ·refine nw (k+1) ?_ ?_
    ·(repeat' ((conv=>whnf)<;>(first|exact trivial|exact rfl|with_reducible refine And.intro ?_ ?_)))<;>((conv=>whnf)<;>((rw [Pw,Tk g,AB])))
    exact (by omega:k+1<=p.acts.length)
   ·exfalso;omega
  (repeat' ((conv=>whnf);first|(exfalso;omega)|refine gA ?_|(refine gB ?_ ?_<;>intro h)|refine gC (sU b.lo) ?_|intro _))
  rw [show k=p.acts.length by omega]
  refine ay [6,46,47] [] [12] ?_
  (conv=>whnf)
  refine au.go ((Nat)×(List (List Int))) (fun⟨i,o⟩=>(i<=(setOf b.lo).length)/\(o.length<=6*i)/\(o=((setOf b.lo).take i).flatMap (XM p b))) (fun⟨i,o⟩=>[(48,.data (i64 i)),(5,.own 12 0)]) lE (fun⟨i,o⟩=>[(12,25,o.map ints,0)]) (fun⟨i,o⟩=>(setOf b.lo).length - i) ⟨0,[]⟩ ?_ ?_
  ·exact⟨Nat.zero_le _,by simp,by simp⟩
  rintro⟨i,o⟩ ⟨hi,ol,ho⟩
  by_cases hil:i < (setOf b.lo).length
  rotate_left
  ·(repeat' ((conv=>whnf);first|(exfalso;omega)|(refine gB ?_ ?_<;>intro h)))
   refine⟨?_,rfl,trivial⟩
   rw [ho,List.take_of_length_le (by omega)]
  obtain⟨x0,hx0⟩:∃x0,(setOf b.lo)[i]? =some x0:=⟨(setOf b.lo)[i]'hil,by simp⟩
  (repeat' ((conv=>whnf);first|with_reducible refine Idx.got hx0 rfl ?_|(refine gB ?_ ?_<;>intro h)|refine gV ?_))
  rotate_left
  ·exact trivial
  refine ay [6,9,46,47,48,52,53] [] [12] ?_
  (conv=>whnf)
  refine au.go ((Nat)×(List (List Int))) (fun⟨j,o2⟩=>(j<=(setOf (jY p b p.acts.length)).length)/\(o2.length<=6*i+j)/\(o2=o++(((setOf (jY p b p.acts.length)).take j).filter (KH x0)).map (fun y=>[x0,y]))) (fun⟨j,o2⟩=>[(54,.data (i64 j)),(5,.own 12 0)]) lE (fun⟨j,o2⟩=>[(12,25,o2.map ints,0)]) (fun⟨j,o2⟩=>(setOf (jY p b p.acts.length)).length - j) ⟨0,o⟩ ?_ ?_
  ·exact⟨Nat.zero_le _,by omega,by simp⟩
  rintro⟨j,o2⟩ ⟨hj,ol2,ho2⟩
  by_cases hjl:j < (setOf (jY p b p.acts.length)).length
  ·obtain⟨y0,hy0⟩:∃y0,(setOf (jY p b p.acts.length))[j]? =some y0:=⟨(setOf (jY p b p.acts.length))[j]'hjl,by simp⟩
   (repeat' ((conv=>whnf);first|with_reducible refine Idx.got hy0 rfl ?_|refine gAX ?_|(refine gN ?_ ?_<;>intro h hw)|(refine gB ?_ ?_<;>intro h)|refine gC (dG _ _ _) ?_|intro _))
   ·refine nwS ⟨j+1,o2++[[x0,y0]]⟩ ?_
    exact⟨by omega,by simp;omega,(fI ho2 hy0).1 (by simp [KH,cu, *])⟩
   ·refine nx ⟨j+1,o2⟩ ?_
    exact⟨by omega,by omega,(fI ho2 hy0).2 (by simp [KH,cu, *])⟩
   ·refine nx ⟨j+1,o2⟩ ?_
    exact⟨by omega,by omega,(fI ho2 hy0).2 (by simp [KH,cu, *])⟩
   ·refine nx ⟨j+1,o2⟩ ?_
    exact⟨by omega,by omega,(fI ho2 hy0).2 (by simp [KH,cu, *])⟩
   ·exfalso;omega
  ·(repeat' ((conv=>whnf);first|(exfalso;omega)|refine gA ?_|(refine gB ?_ ?_<;>intro h)))
   refine nx ⟨i+1,o2⟩ ?_
   refine⟨by omega,by omega,?_⟩
   rw [ho2,List.take_of_length_le (by omega)]
   exact Tm ho hx0
open Go.Proofs
def jy (p:Proj):List Rul:=(List.range p.links.length).map jc++(List.range p.acts.length).map endRule++(List.range p.aH.length).map gL
def tC (p:Proj):List Rul:=(List.range p.aS.length).flatMap fun r=>(List.range p.acts.length).flatMap (dW p r)
def AL (b:Dom) (x:aK):List Int:=(setOf (b.hi++x.steps.map Step.at')).filter cu
def Df (i:Nat) (t:Int):Rul:=⟨3,i,t,0⟩
def Jm (i:Nat) (q:List Int):Rul:=⟨4,i,q.getD 0 0,q.getD 1 0⟩
def uJ (p:Proj) (b:Dom) (i:Nat):List Rul:=
 match p.aS[i]? with
 |some x=>(AL b x).map (Df i)++(intervals p b).map (Jm i)
 |none=>[]
def iN (p:Proj) (b:Dom):List Rul:=jy p++(List.range p.aS.length).flatMap (uJ p b)++tC p
def bf (p:Proj) (b:Dom):List Rul:=if usable p b=true then iN p b else []
def lD (r:Rul):Bool:=decide (r.kind=1)||decide (r.kind=2)||decide (r.kind=6)
def oG (r:Rul):Bool:=decide (r.kind=5)
theorem Pz {α β:Type} {f:β->Bool} {g:α->β} {l:List α} (h:∀x,f (g x)=true):(l.map g).filter f=l.map g:=List.filter_eq_self.2 fun y hy=>by
 obtain⟨x,_,rfl⟩:=List.mem_map.1 hy;exact h x
theorem KJ {α β:Type} {f:β->Bool} {g:α->β} {l:List α} (h:∀x,f (g x)=false):(l.map g).filter f= []:=List.filter_eq_nil_iff.2 fun y hy=>by
 obtain⟨x,_,rfl⟩:=List.mem_map.1 hy;rw [h x];exact Bool.false_ne_true
theorem Vk {p:Proj} {r b:Nat} {y:Rul} (h:y∈dW p r b):y.kind=5:=by
 unfold dW at h
 split at h
 ·obtain⟨j,_,rfl⟩:=List.mem_map.1 h;rfl
 ·simp at h
theorem PD {n:Nat} {y:Rul} (h:y∈(List.range n).flatMap pq):y.kind=3:=by
 obtain⟨r,_,h⟩:=List.mem_flatMap.1 h
 obtain⟨j,_,rfl⟩:=List.mem_map.1 h;rfl
theorem PE {p:Proj} {y:Rul} (h:y∈tC p):y.kind=5:=by
 obtain⟨r,_,h⟩:=List.mem_flatMap.1 h
 obtain⟨b,_,h⟩:=List.mem_flatMap.1 h
 exact Vk h
theorem XO (p:Proj):(dw p).filter lD=jy p:=by
 have h1:((List.range p.aS.length).flatMap pq).filter lD= []:=List.filter_eq_nil_iff.2 fun y hy=>by rw [lD,PD hy];decide
 have h2:((List.range p.aS.length).flatMap fun r=>(List.range p.acts.length).flatMap (dW p r)).filter lD= []:=List.filter_eq_nil_iff.2 fun y hy=>by rw [lD,PE hy];decide
 simp only [dw,List.filter_append,h1,h2,jy]
 rw [Pz (fun _=>rfl),Pz (fun _=>rfl),Pz (fun _=>rfl)]
 simp
theorem ZP (p:Proj):(dw p).filter oG=tC p:=by
 have h1:((List.range p.aS.length).flatMap pq).filter oG= []:=List.filter_eq_nil_iff.2 fun y hy=>by rw [oG,PD hy];decide
 have h2:((List.range p.aS.length).flatMap fun r=>(List.range p.acts.length).flatMap (dW p r)).filter oG=tC p:=List.filter_eq_self.2 fun y hy=>by rw [oG,PE hy];rfl
 simp only [dw,List.filter_append,h1,h2]
 rw [KJ (fun _=>rfl),KJ (fun _=>rfl),KJ (fun _=>rfl)]
 simp
theorem qM {α β:Type} {f:α->List β} {c:Nat}:∀{l:List α},(∀x∈l,(f x).length<=c)->(l.flatMap f).length<=c*l.length
 |[],_=>by simp
 |x::l,h=>by
  have h1:=h x (by simp)
  have h2:=qM (l:=l) fun y hy=>h y (by simp [hy])
  simp only [List.flatMap_cons,List.length_append,List.length_cons,Nat.mul_add];omega
theorem KL {p:Proj} (ho:bI p=true):(jy p).length<=20:=by
 have:=mW ho
 simp only [jy,List.length_append,List.length_map,List.length_range];omega
theorem XP (p:Proj) (r b:Nat):(dW p r b).length<=p.acts.length:=by
 unfold dW;split
 ·simp
 ·simp
theorem PG {p:Proj} (ho:bI p=true):(tC p).length<=108:=by
 have hs:=mW ho
 have h2:∀r,((List.range p.acts.length).flatMap (dW p r)).length<=36:=fun r=>by
  have:=qM (f:=dW p r) (c:=6) (l:=List.range p.acts.length) fun b _=>Nat.le_trans (XP p r b) hs.1.2
  simp only [List.length_range] at this;omega
 have:=qM (f:=fun r=>(List.range p.acts.length).flatMap (dW p r)) (c:=36) (l:=List.range p.aS.length) fun r _=>h2 r
 simp only [List.length_range] at this
 show ((List.range p.aS.length).flatMap fun r=>(List.range p.acts.length).flatMap (dW p r)).length<=108
 omega
theorem yP {p:Proj} {b:Dom} (hf:aW p b=true):(intervals p b).length<=36:=by
 unfold intervals
 split
 ·obtain⟨hpo,l1,l2,l3,_⟩:=bA hf
  have hna:=(bX hpo).Cy
  have h1:=iI b.lo
  have h2:=iI (jY p b p.acts.length)
  rw [KI] at h2
  have h3:=qM (f:=XM p b) (c:=6) (l:=setOf b.lo) fun x _=>by
   have:=List.length_filter_le (KH x) (setOf (jY p b p.acts.length))
   simp only [XM,adV,List.length_map];omega
  omega
 ·simp
theorem yQ {p:Proj} {b:Dom} {q:List Int} (h:q∈intervals p b):∃x y,q= [x,y]/\cu x=true/\cu y=true/\x < y:=by
 unfold intervals at h
 split at h
 ·obtain⟨x,_,h⟩:=List.mem_flatMap.1 h
  obtain⟨y,hy,rfl⟩:=List.mem_map.1 h
  have:=(List.mem_filter.1 hy).2
  simp only [KH,Bool.and_eq_true,decide_eq_true_eq] at this
  exact⟨x,y,rfl,this.1.1,this.1.2,this.2⟩
 ·simp at h
theorem KM {p:Proj} (ho:bI p=true) {k:Nat} {x:aK} (h:p.aS[k]? =some x):x.steps.length<=8:=by
 have:=(bX ho).res k x h
 simp only [sF,Bool.and_eq_true,kT,within_iff] at this
 omega
theorem ace {p:Proj} (ho:bI p=true):(dw p).length<=400:=by
 have hs:=mW ho
 have h1:=qM (f:=pq) (c:=61) (l:=List.range p.aS.length) fun r _=>by simp [pq]
 have h2:((List.range p.aS.length).flatMap fun r=>(List.range p.acts.length).flatMap (dW p r)).length<=108:=PG ho
 simp only [List.length_range] at h1
 simp only [dw,List.length_append,List.length_map,List.length_range];omega
theorem LU {α:Type} (f:α->Bool) {l:List α} {k:Nat} {x:α} (h:l[k]? =some x):(l.take (k+1)).filter f=(l.take k).filter f++if f x=true then [x] else []:=by
 obtain⟨hk,rfl⟩:=List.getElem?_eq_some_iff.1 h
 rw [List.take_succ_eq_append_getElem hk,List.filter_append]
 congr 1
 simp [List.filter_cons]
theorem acf {t u:List Int} (x:Int) (h:setOf t=setOf u):setOf (t++[x])=setOf (u++[x]):=by rw [<- AB,h,AB]
theorem lF {α β:Type} (f:α->β) {l:List α} {k:Nat} {x:α} (h:l[k]? =some x):(l.take (k+1)).map f=(l.take k).map f++[f x]:=(fO f h).symm
theorem Dh {p:Proj} {b:Dom} {i:Nat} {x:aK} (h:p.aS[i]? =some x):uJ p b i=(AL b x).map (Df i)++(intervals p b).map (Jm i):=by simp only [uJ,h]
theorem PI {α:Type} (f:Nat->List α) (n:Nat):(List.range (n+1)).flatMap f=(List.range n).flatMap f++f n:=by rw [List.range_succ,List.flatMap_append];simp
theorem pY (p:Proj) (b:Dom) (hp:p.fine):Con 234 [.d p.av,.d b.av] (.d (.sl ((bf p b).map Rul.av))):=by
 refine con Tryz.func234 rfl rfl Tryz.call234 rfl fun hwf=>?_
 cases hu:usable p b with
 |false=>
  (repeat' ((conv=>whnf);first|refine gA ?_|refine gC (jM p b hp) ?_|intro _))
  refine⟨?_,rfl,trivial⟩;rw [bf,if_neg (by rw [hu];exact Bool.false_ne_true)];rfl
 |true=>
  rw [bf,if_pos hu]
  have hf:=(jH hu).1
  obtain⟨hpo,l1,l2,l3,_⟩:=bA hf
  have hna:=(bX hpo).Cy
  obtain⟨_,hr3,_,_⟩:=mW hpo
  have hpl:=KL hpo
  have hpp:=PG hpo
  have hiv:=yP hf
  (repeat' ((conv=>whnf);first|refine gA ?_|refine gC (jM p b hp) ?_|refine gC (Pt p hpo) ?_|intro _))
  refine ay [2,3,25,26] [2,3] [22,23] ?_
  (conv=>whnf)
  refine au.go ((Nat)×(List Rul)×(List Rul)) (fun⟨k,o,q⟩=>(k<=(dw p).length)/\(o.length<=k)/\(q.length<=k)/\(o=((dw p).take k).filter lD)/\(q=((dw p).take k).filter oG)) (fun⟨k,o,q⟩=>[(27,.data (i64 k)),(5,.own 22 0),(6,.own 23 0)]) lE (fun⟨k,o,q⟩=>[(22,128,o.map Rul.av,0),(23,128,q.map Rul.av,0)]) (fun⟨k,o,q⟩=>(dw p).length - k) ⟨0,[],[]⟩ ?_ ?_
  ·exact⟨Nat.zero_le _,Nat.le_refl _,Nat.le_refl _,rfl,rfl⟩
  rintro⟨k,o,q⟩ ⟨hk,ol,ql,ho,hq⟩
  by_cases hlt:k < (dw p).length
  ·obtain⟨r,hr⟩:∃r,(dw p)[k]? =some r:=⟨(dw p)[k]'hlt,by simp⟩
   have hrl:=ace hpo
   have hsp:=LU lD hr
   have hsq:=LU oG hr
   (repeat' ((conv=>whnf);first|with_reducible refine Idx.got hr rfl ?_|refine gAX ?_|(refine gB ?_ ?_<;>intro h)))
   ·refine nwS ⟨k+1,o++[r],q⟩ ?_
    have e1:lD r=true:=by simp [lD, *]
    have e2:oG r=false:=by simp [oG, *]
    exact⟨by omega,by simp;omega,by omega,by rw [hsp,e1,ho];rfl,by rw [hsq,e2,hq];simp⟩
   ·refine nwS ⟨k+1,o++[r],q⟩ ?_
    have e1:lD r=true:=by simp [lD, *]
    have e2:oG r=false:=by simp [oG, *]
    exact⟨by omega,by simp;omega,by omega,by rw [hsp,e1,ho];rfl,by rw [hsq,e2,hq];simp⟩
   ·refine nwS ⟨k+1,o++[r],q⟩ ?_
    have e1:lD r=true:=by simp [lD, *]
    have e2:oG r=false:=by simp [oG, *]
    exact⟨by omega,by simp;omega,by omega,by rw [hsp,e1,ho];rfl,by rw [hsq,e2,hq];simp⟩
   ·refine nwS ⟨k+1,o,q++[r]⟩ ?_
    have e1:lD r=false:=by simp [lD, *]
    have e2:oG r=true:=by simp [oG, *]
    exact⟨by omega,by omega,by simp;omega,by rw [hsp,e1,ho];simp,by rw [hsq,e2,hq];rfl⟩
   ·refine nx ⟨k+1,o,q⟩ ?_
    have e1:lD r=false:=by simp [lD, *]
    have e2:oG r=false:=by simp [oG, *]
    exact⟨by omega,by omega,by omega,by rw [hsp,e1,ho];simp,by rw [hsq,e2,hq];simp⟩
   ·exfalso;omega
  (repeat' ((conv=>whnf);first|(exfalso;omega)|(refine gB ?_ ?_<;>intro h)))
  have ho':o=jy p:=by rw [ho,List.take_of_length_le (by omega),XO]
  have hq':q=tC p:=by rw [hq,List.take_of_length_le (by omega),ZP]
  clear ho hq ol ql hlt hk
  subst ho' hq'
  refine ay [2,3,6,49,50] [2,3] [22] ?_
  (conv=>whnf)
  refine au.go ((Nat)×(List Rul)) (fun⟨i,o⟩=>(i<=p.aS.length)/\(o.length<=20+50*i)/\(o=jy p++(List.range i).flatMap (uJ p b))) (fun⟨i,o⟩=>[(51,.data (i64 i)),(5,.own 22 0)]) lE (fun⟨i,o⟩=>[(22,128,o.map Rul.av,0)]) (fun⟨i,o⟩=>p.aS.length - i) ⟨0,jy p⟩ ?_ ?_
  ·exact⟨Nat.zero_le _,by omega,by simp⟩
  rintro⟨i,o⟩ ⟨hi,ol,ho⟩
  by_cases hil:i < p.aS.length
  rotate_left
  ·(repeat' ((conv=>whnf);first|(exfalso;omega)|(refine gB ?_ ?_<;>intro h)|refine gP ?_))
   refine⟨?_,rfl,trivial⟩
   rw [iN,ho,show i=p.aS.length by omega];simp
  obtain⟨x,hx⟩:∃x,p.aS[i]? =some x:=⟨p.aS[i]'hil,by simp⟩
  have hst:=KM hpo hx
  (repeat' ((conv=>whnf);first|with_reducible refine Idx.got hx rfl ?_|(refine gB ?_ ?_<;>intro h)|refine gP ?_|refine gV ?_))
  rotate_left
  ·exact trivial
  refine ay [2,3,5,6,9,49,50,51,59,60] [2,3] [] ?_
  (conv=>whnf)
  refine au.go ((Nat)×(List Int)) (fun⟨j,t⟩=>(j<=x.steps.length)/\(t.length<=6+j)/\(setOf t=setOf (b.hi++(x.steps.take j).map Step.at'))) (fun⟨j,t⟩=>[(61,.data (i64 j)),(11,.data (ints t))]) lE lE (fun⟨j,t⟩=>x.steps.length - j) ⟨0,b.hi⟩ ?_ ?_
  ·exact⟨Nat.zero_le _,by omega,by simp⟩
  rintro⟨j,t⟩ ⟨hj,tl,ht⟩
  by_cases hjl:j < x.steps.length
  ·obtain⟨s,hs⟩:∃s,x.steps[j]? =some s:=⟨x.steps[j]'hjl,by simp⟩
   have hs1:t.length < lim:=by unfold lim;omega
   have hs2:=iI (t++[s.at'])
   simp only [List.length_append,List.length_cons,List.length_nil] at hs2
   (repeat' ((conv=>whnf);first|with_reducible refine Idx.got hs rfl ?_|refine gA ?_|(refine gB ?_ ?_<;>intro h)|refine gC (XJ t s.at' hs1) ?_|intro _))
   ·refine nx ⟨j+1,setOf (t++[s.at'])⟩ ?_
    refine⟨by omega,by omega,?_⟩
    rw [XI,acf _ ht,lF Step.at' hs,List.append_assoc]
   ·exfalso;omega
  (repeat' ((conv=>whnf);first|(exfalso;omega)|refine gA ?_|(refine gB ?_ ?_<;>intro h)|refine gC (tq t) ?_|intro _))
  rw [List.take_of_length_le (by omega)] at ht
  have htl:=iI t
  refine ay [2,3,6,9,49,50,51,71,72] [2,3] [22] ?_
  (conv=>whnf)
  refine au.go ((Nat)×(List Rul)) (fun⟨m,o3⟩=>(m<=(setOf t).length)/\(o3.length<=20+50*i+m)/\(o3=o++(((setOf t).take m).filter cu).map (Df i))) (fun⟨m,o3⟩=>[(73,.data (i64 m)),(5,.own 22 0)]) lE (fun⟨m,o3⟩=>[(22,128,o3.map Rul.av,0)]) (fun⟨m,o3⟩=>(setOf t).length - m) ⟨0,o⟩ ?_ ?_
  ·exact⟨Nat.zero_le _,by omega,by simp⟩
  rintro⟨m,o3⟩ ⟨hm,ol3,ho3⟩
  by_cases hml:m < (setOf t).length
  ·obtain⟨v,hv⟩:∃v,(setOf t)[m]? =some v:=⟨(setOf t)[m]'hml,by simp⟩
   (repeat' ((conv=>whnf);first|with_reducible refine Idx.got hv rfl ?_|refine gAX ?_|(refine gN ?_ ?_<;>intro h hw)|(refine gB ?_ ?_<;>intro h)|refine gC (mK v) ?_|intro _))
   ·refine nw ⟨m+1,o3++[Df i v]⟩ ?_ ?_
    ·(repeat' ((conv=>whnf)<;>(first|exact trivial|exact rfl|with_reducible refine And.intro ?_ ?_)))<;>((conv=>whnf)<;>((simp [Df];try rfl)))
    exact⟨by omega,by simp;omega,(fI ho3 hv).1 (by assumption)⟩
   ·refine nx ⟨m+1,o3⟩ ?_
    exact⟨by omega,by omega,(fI ho3 hv).2 (by assumption)⟩
   ·exfalso;omega
  (repeat' ((conv=>whnf);first|(exfalso;omega)|refine gA ?_|(refine gB ?_ ?_<;>intro h)|refine gC (Px p b hp) ?_|intro _))
  have agK:o3=o++(AL b x).map (Df i):=by rw [ho3,List.take_of_length_le (by omega),AL,ht]
  have ajD:o3.length<=20+50*i+14:=by omega
  clear ho3 ol3 hml hm
  refine ay [2,3,6,9,49,50,51,88,89] [2,3] [22] ?_
  (conv=>whnf)
  refine au.go ((Nat)×(List Rul)) (fun⟨n,o4⟩=>(n<=(intervals p b).length)/\(o4.length<=34+50*i+n)/\(o4=o3++((intervals p b).take n).map (Jm i))) (fun⟨n,o4⟩=>[(90,.data (i64 n)),(5,.own 22 0)]) lE (fun⟨n,o4⟩=>[(22,128,o4.map Rul.av,0)]) (fun⟨n,o4⟩=>(intervals p b).length - n) ⟨0,o3⟩ ?_ ?_
  ·exact⟨Nat.zero_le _,by omega,by simp⟩
  rintro⟨n,o4⟩ ⟨hn,ol4,ho4⟩
  by_cases hnl:n < (intervals p b).length
  ·obtain⟨q2,hq2⟩:∃q2,(intervals p b)[n]? =some q2:=⟨(intervals p b)[n]'hnl,by simp⟩
   obtain⟨u,v,rfl,_⟩:=yQ (List.mem_of_getElem? hq2)
   (repeat' ((conv=>whnf);first|(with_reducible first|refine Idx.got hq2 rfl ?_|refine Idx.got (l:=[u,v]) (k:=0) rfl rfl ?_|refine Idx.got (l:=[u,v]) (k:=1) rfl rfl ?_)|refine gAX ?_|(refine gB ?_ ?_<;>intro h)))
   ·refine nw ⟨n+1,o4++[Jm i [u,v]]⟩ ?_ ?_
    ·(repeat' ((conv=>whnf)<;>(first|exact trivial|exact rfl|with_reducible refine And.intro ?_ ?_)))<;>((conv=>whnf)<;>((simp [Jm];try rfl)))
    exact⟨by omega,by simp;omega,by rw [ho4,lF _ hq2,List.append_assoc]⟩
   all_goals (first|(exfalso;omega)|exact trivial)
  ·(repeat' ((conv=>whnf);first|(exfalso;omega)|refine gA ?_|(refine gB ?_ ?_<;>intro h)))
   refine nx ⟨i+1,o4⟩ ?_
   refine⟨by omega,by omega,?_⟩
   rw [ho4,agK,ho,List.take_of_length_le (by omega),PI,Dh hx];simp
theorem LV (p:Proj) (b:Dom) (hp:p.fine) (hu:usable p b=true):Con 207 [.d p.av,.d b.av] (.d (.sl ((iN p b).map Rul.av))):=by
 refine con Tryz.func207 rfl rfl Tryz.call207 rfl fun hwf=>?_
 have hf:=(jH hu).1
 obtain⟨hpo,l1,l2,l3,_⟩:=bA hf
 have hna:=(bX hpo).Cy
 obtain⟨_,hr3,hs2,hl12⟩:=mW hpo
 have hpl:=KL hpo
 have hiv:=yP hf
 try (conv=>whnf)
 refine ay [2,3,25] [2,3] [22] ?_
 (conv=>whnf)
 refine au.go ((Nat)×(List Rul)) (fun⟨k,o⟩=>(k<=p.links.length)/\(o.length<=k)/\(o=(List.range k).map jc)) (fun⟨k,o⟩=>[(26,.data (i64 k)),(5,.own 22 0)]) lE (fun⟨k,o⟩=>[(22,128,o.map Rul.av,0)]) (fun⟨k,o⟩=>p.links.length - k) ⟨0,[]⟩ ?_ ?_
 ·exact⟨Nat.zero_le _,by simp,rfl⟩
 rintro⟨k,o⟩ ⟨hk,ol,ho⟩
 by_cases hlt:k < p.links.length
 ·(repeat' ((conv=>whnf);first|refine gAX ?_|(refine gB ?_ ?_<;>intro h)))
  ·refine nw ⟨k+1,o++[jc k]⟩ ?_ ?_
   ·(repeat' ((conv=>whnf)<;>(first|exact trivial|exact rfl|with_reducible refine And.intro ?_ ?_)))<;>((conv=>whnf)<;>((simp [jc]<;>rfl)))
   exact⟨by omega,by simp;omega,by rw [ho,List.range_succ,List.map_append];rfl⟩
  ·exfalso;omega
 (repeat' ((conv=>whnf);first|(exfalso;omega)|(refine gB ?_ ?_<;>intro h)))
 rw [show k=p.links.length by omega] at ho ol
 clear hlt hk
 refine ay [2,3,37] [2,3] [22] ?_
 (conv=>whnf)
 refine au.go ((Nat)×(List Rul)) (fun⟨k2,o2⟩=>(k2<=p.acts.length)/\(o2.length<=12+k2)/\(o2=o++(List.range k2).map endRule)) (fun⟨k2,o2⟩=>[(38,.data (i64 k2)),(5,.own 22 0)]) lE (fun⟨k2,o2⟩=>[(22,128,o2.map Rul.av,0)]) (fun⟨k2,o2⟩=>p.acts.length - k2) ⟨0,o⟩ ?_ ?_
 ·exact⟨Nat.zero_le _,by omega,by simp⟩
 rintro⟨k2,o2⟩ ⟨hk2,ol2,ho2⟩
 by_cases hlt:k2 < p.acts.length
 ·(repeat' ((conv=>whnf);first|refine gAX ?_|(refine gB ?_ ?_<;>intro h)))
  ·refine nw ⟨k2+1,o2++[endRule k2]⟩ ?_ ?_
   ·(repeat' ((conv=>whnf)<;>(first|exact trivial|exact rfl|with_reducible refine And.intro ?_ ?_)))<;>((conv=>whnf)<;>((simp [endRule]<;>rfl)))
   exact⟨by omega,by simp;omega,by rw [ho2,List.range_succ,List.map_append,List.append_assoc];rfl⟩
  ·exfalso;omega
 (repeat' ((conv=>whnf);first|(exfalso;omega)|(refine gB ?_ ?_<;>intro h)))
 rw [show k2=p.acts.length by omega] at ho2 ol2
 clear hlt hk2
 refine ay [2,3,49] [2,3] [22] ?_
 (conv=>whnf)
 refine au.go ((Nat)×(List Rul)) (fun⟨k3,o3⟩=>(k3<=p.aH.length)/\(o3.length<=18+k3)/\(o3=o2++(List.range k3).map gL)) (fun⟨k3,o3⟩=>[(50,.data (i64 k3)),(5,.own 22 0)]) lE (fun⟨k3,o3⟩=>[(22,128,o3.map Rul.av,0)]) (fun⟨k3,o3⟩=>p.aH.length - k3) ⟨0,o2⟩ ?_ ?_
 ·exact⟨Nat.zero_le _,by omega,by simp⟩
 rintro⟨k3,o3⟩ ⟨hk3,ol3,ho3⟩
 by_cases hlt:k3 < p.aH.length
 ·(repeat' ((conv=>whnf);first|refine gAX ?_|(refine gB ?_ ?_<;>intro h)))
  ·refine nw ⟨k3+1,o3++[gL k3]⟩ ?_ ?_
   ·(repeat' ((conv=>whnf)<;>(first|exact trivial|exact rfl|with_reducible refine And.intro ?_ ?_)))<;>((conv=>whnf)<;>((simp [gL]<;>rfl)))
   exact⟨by omega,by simp;omega,by rw [ho3,List.range_succ,List.map_append,List.append_assoc];rfl⟩
  ·exfalso;omega
 (repeat' ((conv=>whnf);first|(exfalso;omega)|refine gA ?_|(refine gB ?_ ?_<;>intro h)|refine gC (sU b.hi) ?_|refine gC (Py p b hp) ?_|intro _))
 have h0:o3=jy p:=by rw [ho3,ho2,ho,show k3=p.aH.length by omega];rfl
 clear ho ho2 ho3 ol ol2 ol3 hlt hk3
 subst h0
 have hsh:=iI b.hi
 refine ay [2,9,10,67] [2] [22] ?_
 (conv=>whnf)
 refine au.go ((Nat)×(List Rul)) (fun⟨i,o⟩=>(i<=p.aS.length)/\(o.length<=20+50*i)/\(o=jy p++(List.range i).flatMap (uJ p b))) (fun⟨i,o⟩=>[(68,.data (i64 i)),(5,.own 22 0)]) lE (fun⟨i,o⟩=>[(22,128,o.map Rul.av,0)]) (fun⟨i,o⟩=>p.aS.length - i) ⟨0,jy p⟩ ?_ ?_
 ·exact⟨Nat.zero_le _,by omega,by simp⟩
 rintro⟨i,o⟩ ⟨hi,ol,ho⟩
 by_cases hil:i < p.aS.length
 ·obtain⟨x,hx⟩:∃x,p.aS[i]? =some x:=⟨p.aS[i]'hil,by simp⟩
  have hst:=KM hpo hx
  (repeat' ((conv=>whnf);first|with_reducible refine Idx.got hx rfl ?_|(refine gB ?_ ?_<;>intro h)))
  rotate_left
  ·exfalso;omega
  refine ay [2,5,9,10,11,67,68,77,78] [2] [] ?_
  (conv=>whnf)
  refine au.mk ((Nat)) (fun j=>(j<=x.steps.length)) (fun j=>[(79,.data (i64 j)),(12,.data (ints (setOf (b.hi++(x.steps.take j).map Step.at'))))]) lE lE (fun j=>x.steps.length - j) (0) ?_ ?_ ?_
  rotate_left
  ·(repeat' ((conv=>whnf)<;>(first|exact trivial|exact rfl|with_reducible refine And.intro ?_ ?_)))<;>((conv=>whnf)<;>(simp))
  rotate_left
  ·exact Nat.zero_le _
  rintro j hj
  have hsj:=iI (b.hi++(x.steps.take j).map Step.at')
  simp only [List.length_append,List.length_map,List.length_take] at hsj
  by_cases hjl:j < x.steps.length
  ·obtain⟨s,hs⟩:∃s,x.steps[j]? =some s:=⟨x.steps[j]'hjl,by simp⟩
   have hs1:(setOf (b.hi++(x.steps.take j).map Step.at')).length < lim:=by unfold lim;omega
   (repeat' ((conv=>whnf);first|with_reducible refine Idx.got hs rfl ?_|refine gA ?_|(refine gB ?_ ?_<;>intro h)|refine gC (Db _ s.at' hs1) ?_|intro _))
   ·refine nw (j+1) ?_ ?_
    ·(repeat' ((conv=>whnf)<;>(first|exact trivial|exact rfl|with_reducible refine And.intro ?_ ?_)))<;>((conv=>whnf)<;>((rw [AB,lF Step.at' hs,List.append_assoc])))
    exact (by omega:j+1<=x.steps.length)
   ·exfalso;omega
  (repeat' ((conv=>whnf);first|(exfalso;omega)|(refine gB ?_ ?_<;>intro h)))
  rw [List.take_of_length_le (by omega)] at hsj
  rw [List.take_of_length_le (by omega)]
  obtain⟨t,ht⟩:∃t,t=setOf (b.hi++x.steps.map Step.at'):=⟨_,rfl⟩
  rw [<- ht] at hsj
  rw [<- ht]
  refine ay [2,9,10,11,67,68,88,89] [2] [22] ?_
  (conv=>whnf)
  refine au.go ((Nat)×(List Rul)) (fun⟨m,o3⟩=>(m<=t.length)/\(o3.length<=20+50*i+m)/\(o3=o++((t.take m).filter cu).map (Df i))) (fun⟨m,o3⟩=>[(90,.data (i64 m)),(5,.own 22 0)]) lE (fun⟨m,o3⟩=>[(22,128,o3.map Rul.av,0)]) (fun⟨m,o3⟩=>t.length - m) ⟨0,o⟩ ?_ ?_
  ·exact⟨Nat.zero_le _,by omega,by simp⟩
  rintro⟨m,o3⟩ ⟨hm,ol3,ho3⟩
  by_cases hml:m < t.length
  ·obtain⟨v,hv⟩:∃v,t[m]? =some v:=⟨t[m]'hml,by simp⟩
   (repeat' ((conv=>whnf);first|with_reducible refine Idx.got hv rfl ?_|refine gAX ?_|(refine gN ?_ ?_<;>intro h hw)|(refine gB ?_ ?_<;>intro h)|refine gC (dG v _ _) ?_|intro _))
   ·refine nw ⟨m+1,o3++[Df i v]⟩ ?_ ?_
    ·(repeat' ((conv=>whnf)<;>(first|exact trivial|exact rfl|with_reducible refine And.intro ?_ ?_)))<;>((conv=>whnf)<;>((simp [Df];try rfl)))
    exact⟨by omega,by simp;omega,(fI ho3 hv).1 (by assumption)⟩
   ·refine nx ⟨m+1,o3⟩ ?_
    exact⟨by omega,by omega,(fI ho3 hv).2 (by assumption)⟩
   ·exfalso;omega
  (repeat' ((conv=>whnf);first|(exfalso;omega)|(refine gB ?_ ?_<;>intro h)))
  have agK:o3=o++(AL b x).map (Df i):=by rw [ho3,List.take_of_length_le (by omega),AL,ht]
  have ajD:o3.length<=20+50*i+14:=by omega
  clear ho3 ol3 hml hm
  refine ay [2,9,10,11,67,68,103,104] [2] [22] ?_
  (conv=>whnf)
  refine au.go ((Nat)×(List Rul)) (fun⟨n,o4⟩=>(n<=(intervals p b).length)/\(o4.length<=34+50*i+n)/\(o4=o3++((intervals p b).take n).map (Jm i))) (fun⟨n,o4⟩=>[(105,.data (i64 n)),(5,.own 22 0)]) lE (fun⟨n,o4⟩=>[(22,128,o4.map Rul.av,0)]) (fun⟨n,o4⟩=>(intervals p b).length - n) ⟨0,o3⟩ ?_ ?_
  ·exact⟨Nat.zero_le _,by omega,by simp⟩
  rintro⟨n,o4⟩ ⟨hn,ol4,ho4⟩
  by_cases hnl:n < (intervals p b).length
  ·obtain⟨q2,hq2⟩:∃q2,(intervals p b)[n]? =some q2:=⟨(intervals p b)[n]'hnl,by simp⟩
   obtain⟨u,v,rfl,_⟩:=yQ (List.mem_of_getElem? hq2)
   (repeat' ((conv=>whnf);first|(with_reducible first|refine Idx.got hq2 rfl ?_|refine Idx.got (l:=[u,v]) (k:=0) rfl rfl ?_|refine Idx.got (l:=[u,v]) (k:=1) rfl rfl ?_)|refine gAX ?_|(refine gB ?_ ?_<;>intro h)))
   ·refine nw ⟨n+1,o4++[Jm i [u,v]]⟩ ?_ ?_
    ·(repeat' ((conv=>whnf)<;>(first|exact trivial|exact rfl|with_reducible refine And.intro ?_ ?_)))<;>((conv=>whnf)<;>((simp [Jm];try rfl)))
    exact⟨by omega,by simp;omega,by rw [ho4,lF _ hq2,List.append_assoc]⟩
   all_goals (first|(exfalso;omega)|exact trivial)
  ·(repeat' ((conv=>whnf);first|(exfalso;omega)|refine gA ?_|(refine gB ?_ ?_<;>intro h)))
   refine nx ⟨i+1,o4⟩ ?_
   refine⟨by omega,by omega,?_⟩
   rw [ho4,agK,ho,List.take_of_length_le (by omega),PI,Dh hx];simp
 (repeat' ((conv=>whnf);first|(exfalso;omega)|(refine gB ?_ ?_<;>intro h)))
 rw [show i=p.aS.length by omega] at ho ol
 clear hil hi
 refine ay [2,124] [2] [22] ?_
 (conv=>whnf)
 refine au.go ((Nat)×(List Rul)) (fun⟨r5,o5⟩=>(r5<=p.aS.length)/\(o5.length<=201+36*r5)/\(o5=o++(List.range r5).flatMap (fun r=>(List.range p.acts.length).flatMap (dW p r)))) (fun⟨r5,o5⟩=>[(125,.data (i64 r5)),(5,.own 22 0)]) lE (fun⟨r5,o5⟩=>[(22,128,o5.map Rul.av,0)]) (fun⟨r5,o5⟩=>p.aS.length - r5) ⟨0,o⟩ ?_ ?_
 ·exact⟨by omega,by omega,by simp⟩
 rintro⟨r5,o5⟩ ⟨hk5,ol5,ho5⟩
 by_cases hlt:r5 < p.aS.length
 ·(repeat' ((conv=>whnf);first|(exfalso;omega)|(refine gB ?_ ?_<;>intro h)))
  refine ay [2,19,124,125,130] [2] [22] ?_
  (conv=>whnf)
  refine au.go ((Nat)×(List Rul)) (fun⟨a,o6⟩=>(a<=p.acts.length)/\(o6.length<=201+36*r5+6*a)/\(o6=o5++(List.range a).flatMap (dW p r5))) (fun⟨a,o6⟩=>[(131,.data (i64 a)),(5,.own 22 0)]) lE (fun⟨a,o6⟩=>[(22,128,o6.map Rul.av,0)]) (fun⟨a,o6⟩=>p.acts.length - a) ⟨0,o5⟩ ?_ ?_
  ·exact⟨by omega,by omega,by simp⟩
  rintro⟨a,o6⟩ ⟨hk6,ol6,ho6⟩
  by_cases aiq:a < p.acts.length
  ·(repeat' ((conv=>whnf);first|(exfalso;omega)|refine gA ?_|(refine gB ?_ ?_<;>intro h)))
   refine ay [2,19,20,124,125,130,131] [2] [22] ?_
   (conv=>whnf)
   refine au.go ((Nat)×(Int)×(List Rul)) (fun⟨j,c,o7⟩=>(c=a+1+j)/\(a+1+j<=p.acts.length)/\(gu p r5=false->j=0)/\(o7.length<=o6.length+j)/\(o7=o6++(List.range j).map (fun i=>jd r5 a (a+1+i)))) (fun⟨j,c,o7⟩=>[(21,.data (i64 c)),(5,.own 22 0)]) lE (fun⟨j,c,o7⟩=>[(22,128,o7.map Rul.av,0)]) (fun⟨j,c,o7⟩=>p.acts.length - j) ⟨0,(a:Int)+1,o6⟩ ?_ ?_
   ·exact⟨by omega,by omega,fun _=>rfl,by omega,by simp⟩
   rintro⟨j,c,o7⟩ ⟨hc,hj,hz,ol7,ho7⟩
   cases hm:gu p r5 with
   |true=>
    (repeat' ((conv=>whnf);first|refine gAX ?_|(refine gB ?_ ?_<;>intro h)|refine gC (ow p _) ?_|intro _))
    ·refine nw ⟨j+1,c+1,o7++[jd r5 a (a+1+j)]⟩ ?_ ?_
     ·(repeat' ((conv=>whnf)<;>(first|exact trivial|exact rfl|with_reducible refine And.intro ?_ ?_)))<;>((conv=>whnf)<;>((subst hc;simp [jd,Int.natCast_add];try rfl)))
     exact⟨by omega,by omega,(fun e=>by cases e),(by simp;omega),by rw [ho7,List.range_succ,List.map_append,List.append_assoc];rfl⟩
    ·refine nx ⟨a+1,o7⟩ ?_
     refine⟨by omega,by omega,?_⟩
     rw [ho7,ho6,List.range_succ,List.flatMap_append,List.append_assoc,show j=p.acts.length - (a+1) by omega]
     simp [dW,hm]
   |false=>
    have hj0:=hz hm
    subst hj0
    (repeat' ((conv=>whnf);first|refine gA ?_|(refine gB ?_ ?_<;>intro h)|refine gC (ow p _) ?_|intro _))
    all_goals
     refine nx ⟨a+1,o7⟩ ?_
     refine⟨by omega,by omega,?_⟩
     rw [ho7,ho6,List.range_succ,List.flatMap_append,List.append_assoc]
     simp [dW,hm]
  ·(repeat' ((conv=>whnf);first|(exfalso;omega)|refine gA ?_|(refine gB ?_ ?_<;>intro h)))
   refine nx ⟨r5+1,o6⟩ ?_
   refine⟨by omega,by omega,?_⟩
   rw [ho6,ho5,List.range_succ,List.flatMap_append,List.append_assoc,show a=p.acts.length by omega]
   simp
 (repeat' ((conv=>whnf);first|(exfalso;omega)|(refine gB ?_ ?_<;>intro h)))
 refine⟨?_,rfl,trivial⟩
 rw [iN,ho5,ho,show r5=p.aS.length by omega];rfl
end Go.Proofs.YthegbfgeochckaaGreat.Abs
