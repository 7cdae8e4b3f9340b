/- Contracts: intervals; the rules that may refute. -/
import Derived.Test.YtefgamefajmdkaaGreatC27
import Derived.Test.YtefgamefajmdkaaGreatC20a
set_option linter.all false
set_option maxRecDepth 20000
set_option maxHeartbeats 0
namespace Go.Proofs.YtefgamefajmdkaaGreat.Abs
open Go.Proofs
def LU:Bool→Int→List Int→Int
 |_,n,[]=>n
 |b,n,x::r=>LU false (if b=true∨x > n then x else n) r
def CO (a:aB) (ms:List Int):Int:=LU true 0 ((chosen a ms).map Mode.dur)
theorem GH {c:Int}:∀(l:List Int) (b:Bool) (n:Int),(0≤n∧n≤c)→(∀x∈l,0≤x∧x≤c)→0≤LU b n l∧LU b n l≤c
 |[],_,n,h,_=>h
 |x::r,b,n,h,h'=>by
  rw [LU]
  refine GH r false _ ?_ fun y hy=>h' y (by simp [hy])
  split
  ·exact h' x (by simp)
  ·exact h
theorem LV {a:aB} {r s:Int} (h:cB a r s=true) (ms:List Int):0≤CO a ms∧CO a ms≤12:=by
 refine GH _ _ _ (by omega) fun x hx=>?_
 obtain⟨m,hm,rfl⟩:=List.mem_map.1 hx
 have:=(iT h (tO hm)).1
 omega
theorem CP (a:aB) (ms:List Int):Con 303 [.d a.av,.d (ints ms)] (.d (i64 (CO a ms))):=by
 refine con Tryz.func303 rfl rfl Tryz.call303 rfl fun hwf=>?_
 simp only [ARs.wf,AR.wf,AV.wf,AV.wfs,lm,lim] at hwf
 have hl:=FR a ms
 (repeat' ((conv=>whnf);first|refine gA ?_|(refine gB ?_ ?_<;>intro h)|(refine gI ?_;intro x hx)|(refine gJ ?_;intro j x hj hx)|refine gV ?_|refine gC (qF a ms) ?_|intro _))<;>try (conv=>whnf)
 refine aA [10,11] [] [] ?_
 (conv=>whnf)
 refine ay.go ((Nat)×(Int)) (fun⟨k,n⟩=>(k≤(chosen a ms).length)∧(LU (decide ((k:Int)=0)) n (((chosen a ms).drop k).map Mode.dur)=CO a ms)) (fun⟨k,n⟩=>[(12,.data (i64 k)),(5,.data (i64 n))]) (fun _=>[]) (fun _=>[]) (fun⟨k,n⟩=>(chosen a ms).length - k) ⟨0,0⟩ ?_ ?_
 ·exact⟨by omega,rfl⟩
 rintro⟨k,n⟩ ⟨hk,hi⟩
 (repeat' ((conv=>whnf);first|refine gA ?_|(refine gB ?_ ?_<;>intro h)|(refine gI ?_;intro x hx)|(refine gJ ?_;intro j x hj hx)|refine gV ?_|intro _))<;>try (conv=>whnf)
 ·refine nx ⟨k+1,x.dur⟩ ?_
  rw [aC hx,List.map_cons,LU,if_pos (.inl (by simp [h]))] at hi
  exact⟨by omega,by rw [decide_eq_false (show ¬((k+1:Nat):Int)=0 by omega)];exact hi⟩
 ·refine nx ⟨k+1,x.dur⟩ ?_
  rw [aC hx,List.map_cons,LU,if_pos (.inr h)] at hi
  exact⟨by omega,by rw [decide_eq_false (show ¬((k+1:Nat):Int)=0 by omega)];exact hi⟩
 ·refine nx ⟨k+1,n⟩ ?_
  rw [aC hx,List.map_cons,LU,if_neg (by rw [decide_eq_true_eq];omega)] at hi
  exact⟨by omega,by rw [decide_eq_false (show ¬((k+1:Nat):Int)=0 by omega)];exact hi⟩
 ·refine⟨?_,rfl,trivial⟩
  rw [← hi,aU (by assumption)];rfl
def LW (p:Proj) (b:Dom) (i:Nat):Int:=b.hi.getD i 0+CO (iP p i) (b.modes.getD i [])
def lT (p:Proj) (b:Dom) (k:Nat):List Int:=(List.range k).map (LW p b)
abbrev TW (p:Proj) (b:Dom):List Int:=setOf (lT p b p.acts.length)
def Ox (x y:Int):Bool:=fF x&&fF y&&decide (x < y)
def Rl (p:Proj) (b:Dom) (x:Int):List (List Int):=((TW p b).filter (Ox x)).map fun y=>[x,y]
def intervals (p:Proj) (b:Dom):List (List Int):=if usable p b=true then (setOf b.lo).flatMap (Rl p b) else []
theorem Sd {p:Proj} {b:Dom} {k:Nat} {a:aB} {x y:Int} {m:List Int} (g:dX p b k a x y m):LW p b k=y+CO a m:=by
 simp [LW,iP,List.getD_eq_getElem?_getD,g.act,g.hi,g.modes]
theorem Qg (p:Proj) (b:Dom) (k:Nat):lT p b (k+1)=lT p b k++[LW p b k]:=by simp [lT,List.range_succ]
theorem JR (p:Proj) (b:Dom) (k:Nat):(lT p b k).length=k:=by simp [lT]
theorem Sg {α β:Type} {f:α→List β} {l:List α} {k:Nat} {x:α} {o:List β} (ho:o=(l.take k).flatMap f) (h:l[k]? =some x):o++f x=(l.take (k+1)).flatMap f:=by
 obtain⟨hk,rfl⟩:=List.getElem?_eq_some_iff.1 h
 rw [ho,List.take_succ_eq_append_getElem hk,List.flatMap_append];simp
theorem jU {α β:Type} {f:α→Bool} {g:α→β} {l:List α} {k:Nat} {x:α} {q o:List β} (ho:o=q++((l.take k).filter f).map g) (h:l[k]? =some x):
  (f x=true→o++[g x]=q++((l.take (k+1)).filter f).map g)∧(f x=false→o=q++((l.take (k+1)).filter f).map g):=by
 obtain⟨hk,rfl⟩:=List.getElem?_eq_some_iff.1 h
 rw [List.take_succ_eq_append_getElem hk,List.filter_append]
 exact⟨fun hf=>by rw [ho];simp [hf],fun hf=>by rw [ho];simp [hf]⟩
theorem jV {p:Proj} {b:Dom} (h:usable p b=true):aS p b=true∧jB b=false:=by simpa [usable] using h
theorem GI (p:Proj) (b:Dom) (hp:p.fine):Con 278 [.d p.av,.d b.av] (.d (.sl ((intervals p b).map ints))):=by
 refine con Tryz.func278 rfl rfl Tryz.call278 rfl fun hwf=>?_
 simp only [ARs.wf,AR.wf,AV.wf,AV.wfs,lm,lim] at hwf
 cases hu:usable p b with
 |false=>
  (repeat' ((conv=>whnf);first|refine gA ?_|(refine gN ?_ ?_<;>intro h hw)|(refine gB ?_ ?_<;>intro h)|(refine gI ?_;intro x hx)|(refine gJ ?_;intro j x hj hx)|refine gP ?_|refine gV ?_|refine gC (fP p b hp) ?_|intro _))<;>try (conv=>whnf)
  refine⟨?_,rfl,trivial⟩;rw [intervals,if_neg (by rw [hu];exact Bool.false_ne_true)];rfl
 |true=>
  rw [intervals,if_pos hu]
  have hf:=(jV hu).1
  obtain⟨hpo,l1,l2,l3,_⟩:=bF hf
  have hna:=(dP hpo).FU
  have hel:=JR p b
  have hsl:=jg b.lo
  have hse:(setOf (lT p b p.acts.length)).length≤p.acts.length:=by have:=jg (lT p b p.acts.length);rw [hel] at this;exact this
  (repeat' ((conv=>whnf);first|refine gA ?_|(refine gN ?_ ?_<;>intro h hw)|(refine gB ?_ ?_<;>intro h)|(refine gI ?_;intro x hx)|(refine gJ ?_;intro j x hj hx)|refine gP ?_|refine gV ?_|refine gC (fP p b hp) ?_|intro _))<;>try (conv=>whnf)
  refine aA [3,6,20,21] [3] [17] ?_
  (conv=>whnf)
  refine ay.go ((Nat)) (fun k=>(k≤p.acts.length)) (fun k=>[(22,.data (i64 k)),(5,.own 17 0)]) (fun _=>[]) (fun k=>[(17,3,(lT p b k).map i64,0)]) (fun k=>p.acts.length - k) (0) ?_ ?_
  ·exact Nat.zero_le _
  rintro k hk
  have hek:=hel k
  by_cases hlt:k < p.acts.length
  ·obtain⟨a,lo,up,m,g⟩:=gY hf hlt
   have h1:=g.hib
   have h2:=LV g.aok m
   (repeat' ((conv=>whnf);first|with_reducible refine Idx.got g.act rfl ?_|with_reducible refine Idx.got g.hi rfl ?_|with_reducible refine Idx.got g.modes rfl ?_|refine gA ?_|(refine gN ?_ ?_<;>intro h hw)|(refine gB ?_ ?_<;>intro h)|(refine gI ?_;intro x hx)|(refine gJ ?_;intro j x hj hx)|refine gP ?_|refine gV ?_|refine gC (CP a m) ?_|intro _))<;>try (conv=>whnf)
   ·refine nw (k+1) ?_ ?_
    ·(repeat' ((conv=>whnf)<;>(first|exact trivial|exact rfl|with_reducible refine And.intro ?_ ?_)))<;>((conv=>whnf)<;>((rw [Qg,Sd g];simp)))
    exact (by omega:k+1≤p.acts.length)
   ·exfalso;omega
  (repeat' ((conv=>whnf);first|(exfalso;omega)|refine gA ?_|(refine gN ?_ ?_<;>intro h hw)|(refine gB ?_ ?_<;>intro h)|(refine gI ?_;intro x hx)|(refine gJ ?_;intro j x hj hx)|refine gP ?_|refine gV ?_|refine gC (mF b.lo) ?_|intro _))<;>try (conv=>whnf)
  rw [show k=p.acts.length by omega]
  refine aA [46,47] [] [18] ?_
  (conv=>whnf)
  refine ay.go ((Nat)×(List (List Int))) (fun⟨i,o⟩=>(i≤(setOf b.lo).length)∧(o.length≤6*i)∧(o=((setOf b.lo).take i).flatMap (Rl p b))) (fun⟨i,o⟩=>[(48,.data (i64 i)),(5,.data (ints (lT p b p.acts.length))),(6,.own 18 0)]) (fun _=>[]) (fun⟨i,o⟩=>[(18,26,o.map ints,0)]) (fun⟨i,o⟩=>(setOf b.lo).length - i) ⟨0,[]⟩ ?_ ?_
  ·exact⟨Nat.zero_le _,by simp,by simp⟩
  rintro⟨i,o⟩ ⟨hi,ol,ho⟩
  by_cases hil:i < (setOf b.lo).length
  rotate_left
  ·(repeat' ((conv=>whnf);first|(exfalso;omega)|refine gA ?_|(refine gN ?_ ?_<;>intro h hw)|(refine gB ?_ ?_<;>intro h)|(refine gI ?_;intro x hx)|(refine gJ ?_;intro j x hj hx)|refine gP ?_|refine gV ?_|intro _))<;>try (conv=>whnf)
   refine⟨?_,rfl,trivial⟩
   rw [ho,List.take_of_length_le (by omega)]
  obtain⟨x0,hx0⟩:∃x0,(setOf b.lo)[i]? =some x0:=⟨(setOf b.lo)[i]'hil,by simp⟩
  (repeat' ((conv=>whnf);first|with_reducible refine Idx.got hx0 rfl ?_|refine gA ?_|(refine gN ?_ ?_<;>intro h hw)|(refine gB ?_ ?_<;>intro h)|(refine gI ?_;intro x hx)|(refine gJ ?_;intro j x hj hx)|refine gP ?_|refine gV ?_|refine gC (mF (lT p b p.acts.length)) ?_|intro _))<;>try (conv=>whnf)
  rotate_left
  ·exact trivial
  refine aA [5,10,46,47,48,53,54] [] [18] ?_
  (conv=>whnf)
  refine ay.go ((Nat)×(List (List Int))) (fun⟨j,o2⟩=>(j≤(setOf (lT p b p.acts.length)).length)∧(o2.length≤6*i+j)∧(o2=o++(((setOf (lT p b p.acts.length)).take j).filter (Ox x0)).map (fun y=>[x0,y]))) (fun⟨j,o2⟩=>[(55,.data (i64 j)),(6,.own 18 0)]) (fun _=>[]) (fun⟨j,o2⟩=>[(18,26,o2.map ints,0)]) (fun⟨j,o2⟩=>(setOf (lT p b p.acts.length)).length - j) ⟨0,o⟩ ?_ ?_
  ·exact⟨Nat.zero_le _,by omega,by simp⟩
  rintro⟨j,o2⟩ ⟨hj,ol2,ho2⟩
  by_cases hjl:j < (setOf (lT p b p.acts.length)).length
  ·obtain⟨y0,hy0⟩:∃y0,(setOf (lT p b p.acts.length))[j]? =some y0:=⟨(setOf (lT p b p.acts.length))[j]'hjl,by simp⟩
   (repeat' ((conv=>whnf);first|with_reducible refine Idx.got hy0 rfl ?_|refine gA ?_|(refine gN ?_ ?_<;>intro h hw)|(refine gB ?_ ?_<;>intro h)|(refine gI ?_;intro x hx)|(refine gJ ?_;intro j x hj hx)|refine gP ?_|refine gV ?_|refine gC (iQ _) ?_|intro _))<;>try (conv=>whnf)
   ·refine nw ⟨j+1,o2++[[x0,y0]]⟩ ?_ ?_
    ·(repeat' ((conv=>whnf)<;>(first|exact trivial|exact rfl|with_reducible refine And.intro ?_ ?_)))<;>((conv=>whnf)<;>(simp))
    exact⟨by omega,by simp;omega,(jU ho2 hy0).1 (by simp [Ox, *])⟩
   ·refine nx ⟨j+1,o2⟩ ?_
    exact⟨by omega,by omega,(jU ho2 hy0).2 (by simp [Ox, *])⟩
   ·refine nx ⟨j+1,o2⟩ ?_
    exact⟨by omega,by omega,(jU ho2 hy0).2 (by simp [Ox, *])⟩
   ·refine nx ⟨j+1,o2⟩ ?_
    exact⟨by omega,by omega,(jU ho2 hy0).2 (by simp [Ox, *])⟩
   ·exfalso;omega
  ·(repeat' ((conv=>whnf);first|(exfalso;omega)|refine gA ?_|(refine gN ?_ ?_<;>intro h hw)|(refine gB ?_ ?_<;>intro h)|(refine gI ?_;intro x hx)|(refine gJ ?_;intro j x hj hx)|refine gP ?_|refine gV ?_|intro _))<;>try (conv=>whnf)
   refine nx ⟨i+1,o2⟩ ?_
   refine⟨by omega,by omega,?_⟩
   rw [ho2,List.take_of_length_le (by omega)]
   exact Sg ho hx0
open Go.Proofs
def iU (p:Proj):List Rul:=(List.range p.links.length).map lK++(List.range p.acts.length).map endRule++(List.range p.aR.length).map jO
def mG (p:Proj):List Rul:=(List.range p.aW.length).flatMap fun r=>(List.range p.acts.length).flatMap (eB p r)
def Ba (b:Dom) (x:bI):List Int:=(setOf (b.hi++x.steps.map Step.at')).filter fF
def GJ (i:Nat) (t:Int):Rul:=⟨3,i,t,0⟩
def JU (i:Nat) (q:List Int):Rul:=⟨4,i,q.getD 0 0,q.getD 1 0⟩
def pW (p:Proj) (b:Dom) (i:Nat):List Rul:=
 match p.aW[i]? with
 |some x=>(Ba b x).map (GJ i)++(intervals p b).map (JU i)
 |none=>[]
def Bb (p:Proj) (b:Dom):List Rul:=iU p++(List.range p.aW.length).flatMap (pW p b)++mG p
def aQ (p:Proj) (b:Dom):List Rul:=if usable p b=true then Bb p b else []
def iw (r:Rul):Bool:=decide (r.kind=1)||decide (r.kind=2)||decide (r.kind=6)
def jG (r:Rul):Bool:=decide (r.kind=5)
theorem GK {α β:Type} {f:β→Bool} {g:α→β} {l:List α} (h:∀x,f (g x)=true):(l.map g).filter f=l.map g:=List.filter_eq_self.2 fun y hy=>by
 obtain⟨x,_,rfl⟩:=List.mem_map.1 hy;exact h x
theorem CQ {α β:Type} {f:β→Bool} {g:α→β} {l:List α} (h:∀x,f (g x)=false):(l.map g).filter f= []:=List.filter_eq_nil_iff.2 fun y hy=>by
 obtain⟨x,_,rfl⟩:=List.mem_map.1 hy;rw [h x];exact Bool.false_ne_true
theorem LX {p:Proj} {r b:Nat} {y:Rul} (h:y∈eB p r b):y.kind=5:=by
 unfold eB at h
 split at h
 ·obtain⟨j,_,rfl⟩:=List.mem_map.1 h;rfl
 ·simp at h
theorem GL {n:Nat} {y:Rul} (h:y∈(List.range n).flatMap lM):y.kind=3:=by
 obtain⟨r,_,h⟩:=List.mem_flatMap.1 h
 obtain⟨j,_,rfl⟩:=List.mem_map.1 h;rfl
theorem GN {p:Proj} {y:Rul} (h:y∈mG p):y.kind=5:=by
 obtain⟨r,_,h⟩:=List.mem_flatMap.1 h
 obtain⟨b,_,h⟩:=List.mem_flatMap.1 h
 exact LX h
theorem Oy (p:Proj):(cO p).filter iw=iU p:=by
 have h1:((List.range p.aW.length).flatMap lM).filter iw= []:=List.filter_eq_nil_iff.2 fun y hy=>by rw [iw,GL hy];decide
 have h2:((List.range p.aW.length).flatMap fun r=>(List.range p.acts.length).flatMap (eB p r)).filter iw= []:=List.filter_eq_nil_iff.2 fun y hy=>by rw [iw,GN hy];decide
 simp only [cO,List.filter_append,h1,h2,iU]
 rw [GK (fun _=>rfl),GK (fun _=>rfl),GK (fun _=>rfl)]
 simp
theorem Qh (p:Proj):(cO p).filter jG=mG p:=by
 have h1:((List.range p.aW.length).flatMap lM).filter jG= []:=List.filter_eq_nil_iff.2 fun y hy=>by rw [jG,GL hy];decide
 have h2:((List.range p.aW.length).flatMap fun r=>(List.range p.acts.length).flatMap (eB p r)).filter jG=mG p:=List.filter_eq_self.2 fun y hy=>by rw [jG,GN hy];rfl
 simp only [cO,List.filter_append,h1,h2]
 rw [CQ (fun _=>rfl),CQ (fun _=>rfl),CQ (fun _=>rfl)]
 simp
theorem kY {α β:Type} {f:α→List β} {c:Nat}:∀{l:List α},(∀x∈l,(f x).length≤c)→(l.flatMap f).length≤c*l.length
 |[],_=>by simp
 |x::l,h=>by
  have h1:=h x (by simp)
  have h2:=kY (l:=l) fun y hy=>h y (by simp [hy])
  simp only [List.flatMap_cons,List.length_append,List.length_cons,Nat.mul_add];omega
theorem JV {p:Proj} (ho:bC p=true):(iU p).length≤20:=by
 have:=kP ho
 simp only [iU,List.length_append,List.length_map,List.length_range];omega
theorem Oz (p:Proj) (r b:Nat):(eB p r b).length≤p.acts.length:=by
 unfold eB;split
 ·simp
 ·simp
theorem GQ {p:Proj} (ho:bC p=true):(mG p).length≤108:=by
 have hs:=kP ho
 have h2:∀r,((List.range p.acts.length).flatMap (eB p r)).length≤36:=fun r=>by
  have:=kY (f:=eB p r) (c:=6) (l:=List.range p.acts.length) fun b _=>Nat.le_trans (Oz p r b) hs.1.2
  simp only [List.length_range] at this;omega
 have:=kY (f:=fun r=>(List.range p.acts.length).flatMap (eB p r)) (c:=36) (l:=List.range p.aW.length) fun r _=>h2 r
 simp only [List.length_range] at this
 show ((List.range p.aW.length).flatMap fun r=>(List.range p.acts.length).flatMap (eB p r)).length≤108
 omega
theorem yj {p:Proj} {b:Dom} (hf:aS p b=true):(intervals p b).length≤36:=by
 unfold intervals
 split
 ·obtain⟨hpo,l1,l2,l3,_⟩:=bF hf
  have hna:=(dP hpo).FU
  have h1:=jg b.lo
  have h2:=jg (lT p b p.acts.length)
  rw [JR] at h2
  have h3:=kY (f:=Rl p b) (c:=6) (l:=setOf b.lo) fun x _=>by
   have:=List.length_filter_le (Ox x) (setOf (lT p b p.acts.length))
   simp only [Rl,TW,List.length_map];omega
  omega
 ·simp
theorem yt {p:Proj} {b:Dom} {q:List Int} (h:q∈intervals p b):∃x y,q= [x,y]∧fF x=true∧fF y=true∧x < y:=by
 unfold intervals at h
 split at h
 ·obtain⟨x,_,h⟩:=List.mem_flatMap.1 h
  obtain⟨y,hy,rfl⟩:=List.mem_map.1 h
  have:=(List.mem_filter.1 hy).2
  simp only [Ox,Bool.and_eq_true,decide_eq_true_eq] at this
  exact⟨x,y,rfl,this.1.1,this.1.2,this.2⟩
 ·simp at h
theorem JW {p:Proj} (ho:bC p=true) {k:Nat} {x:bI} (h:p.aW[k]? =some x):x.steps.length≤8:=by
 have:=(dP ho).res k x h
 simp only [nT,Bool.and_eq_true,kG,within_iff] at this
 omega
theorem Si {p:Proj} (ho:bC p=true):(cO p).length≤400:=by
 have hs:=kP ho
 have h1:=kY (f:=lM) (c:=61) (l:=List.range p.aW.length) fun r _=>by simp [lM]
 have h2:((List.range p.aW.length).flatMap fun r=>(List.range p.acts.length).flatMap (eB p r)).length≤108:=GQ ho
 simp only [List.length_range] at h1
 simp only [cO,List.length_append,List.length_map,List.length_range];omega
theorem DI {α:Type} (f:α→Bool) {l:List α} {k:Nat} {x:α} (h:l[k]? =some x):(l.take (k+1)).filter f=(l.take k).filter f++if f x=true then [x] else []:=by
 obtain⟨hk,rfl⟩:=List.getElem?_eq_some_iff.1 h
 rw [List.take_succ_eq_append_getElem hk,List.filter_append]
 congr 1
 simp [List.filter_cons]
theorem Sj {t u:List Int} (x:Int) (h:setOf t=setOf u):setOf (t++[x])=setOf (u++[x]):=by rw [← Gz,h,Gz]
theorem lU {α β:Type} (f:α→β) {l:List α} {k:Nat} {x:α} (h:l[k]? =some x):(l.take (k+1)).map f=(l.take k).map f++[f x]:=(jf f h).symm
theorem DJ {p:Proj} {b:Dom} {i:Nat} {x:bI} (h:p.aW[i]? =some x):pW p b i=(Ba b x).map (GJ i)++(intervals p b).map (JU i):=by simp only [pW,h]
theorem Qi {α:Type} (f:Nat→List α) (n:Nat):(List.range (n+1)).flatMap f=(List.range n).flatMap f++f n:=by rw [List.range_succ,List.flatMap_append];simp
theorem kg (p:Proj) (b:Dom) (hp:p.fine):Con 246 [.d p.av,.d b.av] (.d (.sl ((aQ p b).map Rul.av))):=by
 refine con Tryz.func246 rfl rfl Tryz.call246 rfl fun hwf=>?_
 simp only [ARs.wf,AR.wf,AV.wf,AV.wfs,lm,lim] at hwf
 cases hu:usable p b with
 |false=>
  (repeat' ((conv=>whnf);first|refine gA ?_|(refine gN ?_ ?_<;>intro h hw)|(refine gB ?_ ?_<;>intro h)|(refine gI ?_;intro x hx)|(refine gJ ?_;intro j x hj hx)|refine gP ?_|refine gV ?_|refine gC (fP p b hp) ?_|intro _))<;>try (conv=>whnf)
  refine⟨?_,rfl,trivial⟩;rw [aQ,if_neg (by rw [hu];exact Bool.false_ne_true)];rfl
 |true=>
  rw [aQ,if_pos hu]
  have hf:=(jV hu).1
  obtain⟨hpo,l1,l2,l3,_⟩:=bF hf
  have hna:=(dP hpo).FU
  obtain⟨_,hr3,_,_⟩:=kP hpo
  have hpl:=JV hpo
  have hpp:=GQ hpo
  have hiv:=yj hf
  (repeat' ((conv=>whnf);first|refine gA ?_|(refine gN ?_ ?_<;>intro h hw)|(refine gB ?_ ?_<;>intro h)|(refine gI ?_;intro x hx)|(refine gJ ?_;intro j x hj hx)|refine gP ?_|refine gV ?_|refine gC (fP p b hp) ?_|refine gC (GD p hpo) ?_|intro _))<;>try (conv=>whnf)
  refine aA [2,3,25,26] [2,3] [22,23] ?_
  (conv=>whnf)
  refine ay.go ((Nat)×(List Rul)×(List Rul)) (fun⟨k,o,q⟩=>(k≤(cO p).length)∧(o.length≤k)∧(q.length≤k)∧(o=((cO p).take k).filter iw)∧(q=((cO p).take k).filter jG)) (fun⟨k,o,q⟩=>[(27,.data (i64 k)),(5,.own 22 0),(6,.own 23 0)]) (fun _=>[]) (fun⟨k,o,q⟩=>[(22,51,o.map Rul.av,0),(23,51,q.map Rul.av,0)]) (fun⟨k,o,q⟩=>(cO p).length - k) ⟨0,[],[]⟩ ?_ ?_
  ·exact⟨Nat.zero_le _,Nat.le_refl _,Nat.le_refl _,rfl,rfl⟩
  rintro⟨k,o,q⟩ ⟨hk,ol,ql,ho,hq⟩
  by_cases hlt:k < (cO p).length
  ·obtain⟨r,hr⟩:∃r,(cO p)[k]? =some r:=⟨(cO p)[k]'hlt,by simp⟩
   have hrl:=Si hpo
   have hsp:=DI iw hr
   have hsq:=DI jG hr
   (repeat' ((conv=>whnf);first|with_reducible refine Idx.got hr rfl ?_|refine gA ?_|(refine gN ?_ ?_<;>intro h hw)|(refine gB ?_ ?_<;>intro h)|(refine gI ?_;intro x hx)|(refine gJ ?_;intro j x hj hx)|refine gP ?_|refine gV ?_|intro _))<;>try (conv=>whnf)
   ·refine nw ⟨k+1,o++[r],q⟩ ?_ ?_
    ·(repeat' ((conv=>whnf)<;>(first|exact trivial|exact rfl|with_reducible refine And.intro ?_ ?_)))<;>((conv=>whnf)<;>(simp))
    have e1:iw r=true:=by simp [iw, *]
    have e2:jG r=false:=by simp [jG, *]
    exact⟨by omega,by simp;omega,by omega,by rw [hsp,e1,ho];rfl,by rw [hsq,e2,hq];simp⟩
   ·refine nw ⟨k+1,o++[r],q⟩ ?_ ?_
    ·(repeat' ((conv=>whnf)<;>(first|exact trivial|exact rfl|with_reducible refine And.intro ?_ ?_)))<;>((conv=>whnf)<;>(simp))
    have e1:iw r=true:=by simp [iw, *]
    have e2:jG r=false:=by simp [jG, *]
    exact⟨by omega,by simp;omega,by omega,by rw [hsp,e1,ho];rfl,by rw [hsq,e2,hq];simp⟩
   ·refine nw ⟨k+1,o++[r],q⟩ ?_ ?_
    ·(repeat' ((conv=>whnf)<;>(first|exact trivial|exact rfl|with_reducible refine And.intro ?_ ?_)))<;>((conv=>whnf)<;>(simp))
    have e1:iw r=true:=by simp [iw, *]
    have e2:jG r=false:=by simp [jG, *]
    exact⟨by omega,by simp;omega,by omega,by rw [hsp,e1,ho];rfl,by rw [hsq,e2,hq];simp⟩
   ·refine nw ⟨k+1,o,q++[r]⟩ ?_ ?_
    ·(repeat' ((conv=>whnf)<;>(first|exact trivial|exact rfl|with_reducible refine And.intro ?_ ?_)))<;>((conv=>whnf)<;>(simp))
    have e1:iw r=false:=by simp [iw, *]
    have e2:jG r=true:=by simp [jG, *]
    exact⟨by omega,by omega,by simp;omega,by rw [hsp,e1,ho];simp,by rw [hsq,e2,hq];rfl⟩
   ·refine nx ⟨k+1,o,q⟩ ?_
    have e1:iw r=false:=by simp [iw, *]
    have e2:jG r=false:=by simp [jG, *]
    exact⟨by omega,by omega,by omega,by rw [hsp,e1,ho];simp,by rw [hsq,e2,hq];simp⟩
   ·exfalso;omega
  (repeat' ((conv=>whnf);first|(exfalso;omega)|refine gA ?_|(refine gN ?_ ?_<;>intro h hw)|(refine gB ?_ ?_<;>intro h)|(refine gI ?_;intro x hx)|(refine gJ ?_;intro j x hj hx)|refine gP ?_|refine gV ?_|intro _))<;>try (conv=>whnf)
  have ho':o=iU p:=by rw [ho,List.take_of_length_le (by omega),Oy]
  have hq':q=mG p:=by rw [hq,List.take_of_length_le (by omega),Qh]
  clear ho hq ol ql hlt hk
  subst ho' hq'
  refine aA [2,3,6,49,50] [2,3] [22] ?_
  (conv=>whnf)
  refine ay.go ((Nat)×(List Rul)) (fun⟨i,o⟩=>(i≤p.aW.length)∧(o.length≤20+50*i)∧(o=iU p++(List.range i).flatMap (pW p b))) (fun⟨i,o⟩=>[(51,.data (i64 i)),(5,.own 22 0)]) (fun _=>[]) (fun⟨i,o⟩=>[(22,51,o.map Rul.av,0)]) (fun⟨i,o⟩=>p.aW.length - i) ⟨0,iU p⟩ ?_ ?_
  ·exact⟨Nat.zero_le _,by omega,by simp⟩
  rintro⟨i,o⟩ ⟨hi,ol,ho⟩
  by_cases hil:i < p.aW.length
  rotate_left
  ·(repeat' ((conv=>whnf);first|(exfalso;omega)|refine gA ?_|(refine gN ?_ ?_<;>intro h hw)|(refine gB ?_ ?_<;>intro h)|(refine gI ?_;intro x hx)|(refine gJ ?_;intro j x hj hx)|refine gP ?_|refine gV ?_|intro _))<;>try (conv=>whnf)
   refine⟨?_,rfl,trivial⟩
   rw [Bb,ho,show i=p.aW.length by omega];simp
  obtain⟨x,hx⟩:∃x,p.aW[i]? =some x:=⟨p.aW[i]'hil,by simp⟩
  have hst:=JW hpo hx
  (repeat' ((conv=>whnf);first|with_reducible refine Idx.got hx rfl ?_|refine gA ?_|(refine gN ?_ ?_<;>intro h hw)|(refine gB ?_ ?_<;>intro h)|(refine gI ?_;intro x hx)|(refine gJ ?_;intro j x hj hx)|refine gP ?_|refine gV ?_|intro _))<;>try (conv=>whnf)
  rotate_left
  ·exact trivial
  refine aA [2,3,5,6,9,49,50,51,59,60] [2,3] [] ?_
  (conv=>whnf)
  refine ay.go ((Nat)×(List Int)) (fun⟨j,t⟩=>(j≤x.steps.length)∧(t.length≤6+j)∧(setOf t=setOf (b.hi++(x.steps.take j).map Step.at'))) (fun⟨j,t⟩=>[(61,.data (i64 j)),(11,.data (ints t))]) (fun _=>[]) (fun _=>[]) (fun⟨j,t⟩=>x.steps.length - j) ⟨0,b.hi⟩ ?_ ?_
  ·exact⟨Nat.zero_le _,by omega,by simp⟩
  rintro⟨j,t⟩ ⟨hj,tl,ht⟩
  by_cases hjl:j < x.steps.length
  ·obtain⟨s,hs⟩:∃s,x.steps[j]? =some s:=⟨x.steps[j]'hjl,by simp⟩
   have hs1:t.length < lim:=by unfold lim;omega
   have hs2:=jg (t++[s.at'])
   simp only [List.length_append,List.length_cons,List.length_nil] at hs2
   (repeat' ((conv=>whnf);first|with_reducible refine Idx.got hs rfl ?_|refine gA ?_|(refine gN ?_ ?_<;>intro h hw)|(refine gB ?_ ?_<;>intro h)|(refine gI ?_;intro x hx)|(refine gJ ?_;intro j x hj hx)|refine gP ?_|refine gV ?_|refine gC (Ov t s.at' hs1) ?_|intro _))<;>try (conv=>whnf)
   ·refine nx ⟨j+1,setOf (t++[s.at'])⟩ ?_
    refine⟨by omega,by omega,?_⟩
    rw [Ou,Sj _ ht,lU Step.at' hs,List.append_assoc]
   ·exfalso;omega
  (repeat' ((conv=>whnf);first|(exfalso;omega)|refine gA ?_|(refine gN ?_ ?_<;>intro h hw)|(refine gB ?_ ?_<;>intro h)|(refine gI ?_;intro x hx)|(refine gJ ?_;intro j x hj hx)|refine gP ?_|refine gV ?_|refine gC (mF t) ?_|intro _))<;>try (conv=>whnf)
  rw [List.take_of_length_le (by omega)] at ht
  have htl:=jg t
  refine aA [2,3,6,9,49,50,51,71,72] [2,3] [22] ?_
  (conv=>whnf)
  refine ay.go ((Nat)×(List Rul)) (fun⟨m,o3⟩=>(m≤(setOf t).length)∧(o3.length≤20+50*i+m)∧(o3=o++(((setOf t).take m).filter fF).map (GJ i))) (fun⟨m,o3⟩=>[(73,.data (i64 m)),(5,.own 22 0)]) (fun _=>[]) (fun⟨m,o3⟩=>[(22,51,o3.map Rul.av,0)]) (fun⟨m,o3⟩=>(setOf t).length - m) ⟨0,o⟩ ?_ ?_
  ·exact⟨Nat.zero_le _,by omega,by simp⟩
  rintro⟨m,o3⟩ ⟨hm,ol3,ho3⟩
  by_cases hml:m < (setOf t).length
  ·obtain⟨v,hv⟩:∃v,(setOf t)[m]? =some v:=⟨(setOf t)[m]'hml,by simp⟩
   (repeat' ((conv=>whnf);first|with_reducible refine Idx.got hv rfl ?_|refine gA ?_|(refine gN ?_ ?_<;>intro h hw)|(refine gB ?_ ?_<;>intro h)|(refine gI ?_;intro x hx)|(refine gJ ?_;intro j x hj hx)|refine gP ?_|refine gV ?_|refine gC (iQ v) ?_|intro _))<;>try (conv=>whnf)
   ·refine nw ⟨m+1,o3++[GJ i v]⟩ ?_ ?_
    ·(repeat' ((conv=>whnf)<;>(first|exact trivial|exact rfl|with_reducible refine And.intro ?_ ?_)))<;>((conv=>whnf)<;>((simp [GJ];try rfl)))
    exact⟨by omega,by simp;omega,(jU ho3 hv).1 (by assumption)⟩
   ·refine nx ⟨m+1,o3⟩ ?_
    exact⟨by omega,by omega,(jU ho3 hv).2 (by assumption)⟩
   ·exfalso;omega
  (repeat' ((conv=>whnf);first|(exfalso;omega)|refine gA ?_|(refine gN ?_ ?_<;>intro h hw)|(refine gB ?_ ?_<;>intro h)|(refine gI ?_;intro x hx)|(refine gJ ?_;intro j x hj hx)|refine gP ?_|refine gV ?_|refine gC (GI p b hp) ?_|intro _))<;>try (conv=>whnf)
  have YR:o3=o++(Ba b x).map (GJ i):=by rw [ho3,List.take_of_length_le (by omega),Ba,ht]
  have Zc:o3.length≤20+50*i+14:=by omega
  clear ho3 ol3 hml hm
  refine aA [2,3,6,9,49,50,51,88,89] [2,3] [22] ?_
  (conv=>whnf)
  refine ay.go ((Nat)×(List Rul)) (fun⟨n,o4⟩=>(n≤(intervals p b).length)∧(o4.length≤34+50*i+n)∧(o4=o3++((intervals p b).take n).map (JU i))) (fun⟨n,o4⟩=>[(90,.data (i64 n)),(5,.own 22 0)]) (fun _=>[]) (fun⟨n,o4⟩=>[(22,51,o4.map Rul.av,0)]) (fun⟨n,o4⟩=>(intervals p b).length - n) ⟨0,o3⟩ ?_ ?_
  ·exact⟨Nat.zero_le _,by omega,by simp⟩
  rintro⟨n,o4⟩ ⟨hn,ol4,ho4⟩
  by_cases hnl:n < (intervals p b).length
  ·obtain⟨q2,hq2⟩:∃q2,(intervals p b)[n]? =some q2:=⟨(intervals p b)[n]'hnl,by simp⟩
   obtain⟨u,v,rfl,_⟩:=yt (List.mem_of_getElem? hq2)
   (repeat' ((conv=>whnf);first|with_reducible refine Idx.got hq2 rfl ?_|with_reducible refine Idx.got (l:=[u,v]) (k:=0) rfl rfl ?_|with_reducible refine Idx.got (l:=[u,v]) (k:=1) rfl rfl ?_|refine gA ?_|(refine gN ?_ ?_<;>intro h hw)|(refine gB ?_ ?_<;>intro h)|(refine gI ?_;intro x hx)|(refine gJ ?_;intro j x hj hx)|refine gP ?_|refine gV ?_|intro _))<;>try (conv=>whnf)
   ·refine nw ⟨n+1,o4++[JU i [u,v]]⟩ ?_ ?_
    ·(repeat' ((conv=>whnf)<;>(first|exact trivial|exact rfl|with_reducible refine And.intro ?_ ?_)))<;>((conv=>whnf)<;>((simp [JU];try rfl)))
    exact⟨by omega,by simp;omega,by rw [ho4,lU _ hq2,List.append_assoc]⟩
   all_goals (first|(exfalso;omega)|exact trivial)
  ·(repeat' ((conv=>whnf);first|(exfalso;omega)|refine gA ?_|(refine gN ?_ ?_<;>intro h hw)|(refine gB ?_ ?_<;>intro h)|(refine gI ?_;intro x hx)|(refine gJ ?_;intro j x hj hx)|refine gP ?_|refine gV ?_|intro _))<;>try (conv=>whnf)
   refine nx ⟨i+1,o4⟩ ?_
   refine⟨by omega,by omega,?_⟩
   rw [ho4,YR,ho,List.take_of_length_le (by omega),Qi,DJ hx];simp
end Go.Proofs.YtefgamefajmdkaaGreat.Abs
