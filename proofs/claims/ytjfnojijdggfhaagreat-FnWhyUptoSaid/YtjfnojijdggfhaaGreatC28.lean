/- Contracts: intervals; the rules that may refute. -/
import Derived.Test.YtjfnojijdggfhaaGreatC27
import Derived.Test.YtjfnojijdggfhaaGreatC20a
set_option linter.all false
set_option maxRecDepth 20000
set_option maxHeartbeats 0
namespace Go.Proofs.YtjfnojijdggfhaaGreat.Abs
open Go.Proofs
def NQ:Bool→Int→List Int→Int
 |_,n,[]=>n
 |b,n,x::r=>NQ false (if b=true∨x > n then x else n) r
def Es (a:aK) (ms:List Int):Int:=NQ true 0 ((chosen a ms).map Mode.dur)
theorem Jp {c:Int}:∀(l:List Int) (b:Bool) (n:Int),(0≤n∧n≤c)→(∀x∈l,0≤x∧x≤c)→0≤NQ b n l∧NQ b n l≤c
 |[],_,n,h,_=>h
 |x::r,b,n,h,h'=>by
  rw [NQ]
  refine Jp r false _ ?_ fun y hy=>h' y (by simp [hy])
  split
  ·exact h' x (by simp)
  ·exact h
theorem NR {a:aK} {r s:Int} (h:bC a r s=true) (ms:List Int):0≤Es a ms∧Es a ms≤12:=by
 refine Jp _ _ _ (by omega) fun x hx=>?_
 obtain⟨m,hm,rfl⟩:=List.mem_map.1 hx
 have:=(jF h (uX hm)).1
 omega
theorem Et (a:aK) (ms:List Int):Con 129 [.d a.av,.d (ints ms)] (.d (i64 (Es a ms))):=by
 refine con Tryz.func129 rfl rfl Tryz.call129 rfl fun hwf=>?_
 simp only [ARs.wf,AR.wf,AV.wf,AV.wfs,lm,lim] at hwf
 have hl:=IK a ms
 (repeat' ((conv=>whnf);first|refine gA ?_|(refine gB ?_ ?_<;>intro h)|(refine gI ?_;intro x hx)|(refine gJ ?_;intro j x hj hx)|refine gV ?_|refine gC (rE a ms) ?_|intro _))<;>try (conv=>whnf)
 refine aB [10,11] [] [] ?_
 (conv=>whnf)
 refine aA.go ((Nat)×(Int)) (fun⟨k,n⟩=>(k≤(chosen a ms).length)∧(NQ (decide ((k:Int)=0)) n (((chosen a ms).drop k).map Mode.dur)=Es a ms)) (fun⟨k,n⟩=>[(12,.data (i64 k)),(5,.data (i64 n))]) (fun _=>[]) (fun _=>[]) (fun⟨k,n⟩=>(chosen a ms).length - k) ⟨0,0⟩ ?_ ?_
 ·exact⟨by omega,rfl⟩
 rintro⟨k,n⟩ ⟨hk,hi⟩
 (repeat' ((conv=>whnf);first|refine gA ?_|(refine gB ?_ ?_<;>intro h)|(refine gI ?_;intro x hx)|(refine gJ ?_;intro j x hj hx)|refine gV ?_|intro _))<;>try (conv=>whnf)
 ·refine nx ⟨k+1,x.dur⟩ ?_
  rw [au hx,List.map_cons,NQ,if_pos (.inl (by simp [h]))] at hi
  exact⟨by omega,by rw [decide_eq_false (show ¬((k+1:Nat):Int)=0 by omega)];exact hi⟩
 ·refine nx ⟨k+1,x.dur⟩ ?_
  rw [au hx,List.map_cons,NQ,if_pos (.inr h)] at hi
  exact⟨by omega,by rw [decide_eq_false (show ¬((k+1:Nat):Int)=0 by omega)];exact hi⟩
 ·refine nx ⟨k+1,n⟩ ?_
  rw [au hx,List.map_cons,NQ,if_neg (by rw [decide_eq_true_eq];omega)] at hi
  exact⟨by omega,by rw [decide_eq_false (show ¬((k+1:Nat):Int)=0 by omega)];exact hi⟩
 ·refine⟨?_,rfl,trivial⟩
  rw [← hi,aJ (by assumption)];rfl
def NS (p:Proj) (b:Dom) (i:Nat):Int:=b.hi.getD i 0+Es (aV p i) (b.modes.getD i [])
def mV (p:Proj) (b:Dom) (k:Nat):List Int:=(List.range k).map (NS p b)
abbrev VT (p:Proj) (b:Dom):List Int:=setOf (mV p b p.acts.length)
def Qq (x y:Int):Bool:=dD x&&dD y&&decide (x < y)
def TG (p:Proj) (b:Dom) (x:Int):List (List Int):=((VT p b).filter (Qq x)).map fun y=>[x,y]
def intervals (p:Proj) (b:Dom):List (List Int):=if usable p b=true then (setOf b.lo).flatMap (TG p b) else []
theorem Uu {p:Proj} {b:Dom} {k:Nat} {a:aK} {x y:Int} {m:List Int} (g:fM p b k a x y m):NS p b k=y+Es a m:=by
 simp [NS,aV,List.getD_eq_getElem?_getD,g.act,g.hi,g.modes]
theorem RQ (p:Proj) (b:Dom) (k:Nat):mV p b (k+1)=mV p b k++[NS p b k]:=by simp [mV,List.range_succ]
theorem LJ (p:Proj) (b:Dom) (k:Nat):(mV p b k).length=k:=by simp [mV]
theorem Uv {α β:Type} {f:α→List β} {l:List α} {k:Nat} {x:α} {o:List β} (ho:o=(l.take k).flatMap f) (h:l[k]? =some x):o++f x=(l.take (k+1)).flatMap f:=by
 obtain⟨hk,rfl⟩:=List.getElem?_eq_some_iff.1 h
 rw [ho,List.take_succ_eq_append_getElem hk,List.flatMap_append];simp
theorem kV {α β:Type} {f:α→Bool} {g:α→β} {l:List α} {k:Nat} {x:α} {q o:List β} (ho:o=q++((l.take k).filter f).map g) (h:l[k]? =some x):
  (f x=true→o++[g x]=q++((l.take (k+1)).filter f).map g)∧(f x=false→o=q++((l.take (k+1)).filter f).map g):=by
 obtain⟨hk,rfl⟩:=List.getElem?_eq_some_iff.1 h
 rw [List.take_succ_eq_append_getElem hk,List.filter_append]
 exact⟨fun hf=>by rw [ho];simp [hf],fun hf=>by rw [ho];simp [hf]⟩
theorem mW {p:Proj} {b:Dom} (h:usable p b=true):ay p b=true∧aR b=false:=by simpa [usable] using h
theorem Jq (p:Proj) (b:Dom) (hp:p.fine):Con 68 [.d p.av,.d b.av] (.d (.sl ((intervals p b).map ints))):=by
 refine con Tryz.func68 rfl rfl Tryz.call68 rfl fun hwf=>?_
 simp only [ARs.wf,AR.wf,AV.wf,AV.wfs,lm,lim] at hwf
 cases hu:usable p b with
 |false=>
  (repeat' ((conv=>whnf);first|refine gA ?_|(refine gN ?_ ?_<;>intro h hw)|(refine gB ?_ ?_<;>intro h)|(refine gI ?_;intro x hx)|(refine gJ ?_;intro j x hj hx)|refine gP ?_|refine gV ?_|refine gC (gL p b hp) ?_|intro _))<;>try (conv=>whnf)
  refine⟨?_,rfl,trivial⟩;rw [intervals,if_neg (by rw [hu];exact Bool.false_ne_true)];rfl
 |true=>
  rw [intervals,if_pos hu]
  have hf:=(mW hu).1
  obtain⟨hpo,l1,l2,l3,_⟩:=cZ hf
  have hna:=(fB hpo).Ko
  have hel:=LJ p b
  have hsl:=jq b.lo
  have hse:(setOf (mV p b p.acts.length)).length≤p.acts.length:=by have:=jq (mV p b p.acts.length);rw [hel] at this;exact this
  (repeat' ((conv=>whnf);first|refine gA ?_|(refine gN ?_ ?_<;>intro h hw)|(refine gB ?_ ?_<;>intro h)|(refine gI ?_;intro x hx)|(refine gJ ?_;intro j x hj hx)|refine gP ?_|refine gV ?_|refine gC (gL p b hp) ?_|intro _))<;>try (conv=>whnf)
  refine aB [3,6,20,21] [3] [17] ?_
  (conv=>whnf)
  refine aA.go ((Nat)) (fun k=>(k≤p.acts.length)) (fun k=>[(22,.data (i64 k)),(5,.own 17 0)]) (fun _=>[]) (fun k=>[(17,3,(mV p b k).map i64,0)]) (fun k=>p.acts.length - k) (0) ?_ ?_
  ·exact Nat.zero_le _
  rintro k hk
  have hek:=hel k
  by_cases hlt:k < p.acts.length
  ·obtain⟨a,lo,up,m,g⟩:=eP hf hlt
   have h1:=g.hib
   have h2:=NR g.aok m
   (repeat' ((conv=>whnf);first|with_reducible refine Idx.got g.act rfl ?_|with_reducible refine Idx.got g.hi rfl ?_|with_reducible refine Idx.got g.modes rfl ?_|refine gA ?_|(refine gN ?_ ?_<;>intro h hw)|(refine gB ?_ ?_<;>intro h)|(refine gI ?_;intro x hx)|(refine gJ ?_;intro j x hj hx)|refine gP ?_|refine gV ?_|refine gC (Et a m) ?_|intro _))<;>try (conv=>whnf)
   ·refine nw (k+1) ?_ ?_
    ·(repeat' ((conv=>whnf)<;>(first|exact trivial|exact rfl|with_reducible refine And.intro ?_ ?_)))<;>((conv=>whnf)<;>((rw [RQ,Uu g];simp)))
    exact (by omega:k+1≤p.acts.length)
   ·exfalso;omega
  (repeat' ((conv=>whnf);first|(exfalso;omega)|refine gA ?_|(refine gN ?_ ?_<;>intro h hw)|(refine gB ?_ ?_<;>intro h)|(refine gI ?_;intro x hx)|(refine gJ ?_;intro j x hj hx)|refine gP ?_|refine gV ?_|refine gC (nG b.lo) ?_|intro _))<;>try (conv=>whnf)
  rw [show k=p.acts.length by omega]
  refine aB [46,47] [] [18] ?_
  (conv=>whnf)
  refine aA.go ((Nat)×(List (List Int))) (fun⟨i,o⟩=>(i≤(setOf b.lo).length)∧(o.length≤6*i)∧(o=((setOf b.lo).take i).flatMap (TG p b))) (fun⟨i,o⟩=>[(48,.data (i64 i)),(5,.data (ints (mV p b p.acts.length))),(6,.own 18 0)]) (fun _=>[]) (fun⟨i,o⟩=>[(18,26,o.map ints,0)]) (fun⟨i,o⟩=>(setOf b.lo).length - i) ⟨0,[]⟩ ?_ ?_
  ·exact⟨Nat.zero_le _,by simp,by simp⟩
  rintro⟨i,o⟩ ⟨hi,ol,ho⟩
  by_cases hil:i < (setOf b.lo).length
  rotate_left
  ·(repeat' ((conv=>whnf);first|(exfalso;omega)|refine gA ?_|(refine gN ?_ ?_<;>intro h hw)|(refine gB ?_ ?_<;>intro h)|(refine gI ?_;intro x hx)|(refine gJ ?_;intro j x hj hx)|refine gP ?_|refine gV ?_|intro _))<;>try (conv=>whnf)
   refine⟨?_,rfl,trivial⟩
   rw [ho,List.take_of_length_le (by omega)]
  obtain⟨x0,hx0⟩:∃x0,(setOf b.lo)[i]? =some x0:=⟨(setOf b.lo)[i]'hil,by simp⟩
  (repeat' ((conv=>whnf);first|with_reducible refine Idx.got hx0 rfl ?_|refine gA ?_|(refine gN ?_ ?_<;>intro h hw)|(refine gB ?_ ?_<;>intro h)|(refine gI ?_;intro x hx)|(refine gJ ?_;intro j x hj hx)|refine gP ?_|refine gV ?_|refine gC (nG (mV p b p.acts.length)) ?_|intro _))<;>try (conv=>whnf)
  rotate_left
  ·exact trivial
  refine aB [5,10,46,47,48,53,54] [] [18] ?_
  (conv=>whnf)
  refine aA.go ((Nat)×(List (List Int))) (fun⟨j,o2⟩=>(j≤(setOf (mV p b p.acts.length)).length)∧(o2.length≤6*i+j)∧(o2=o++(((setOf (mV p b p.acts.length)).take j).filter (Qq x0)).map (fun y=>[x0,y]))) (fun⟨j,o2⟩=>[(55,.data (i64 j)),(6,.own 18 0)]) (fun _=>[]) (fun⟨j,o2⟩=>[(18,26,o2.map ints,0)]) (fun⟨j,o2⟩=>(setOf (mV p b p.acts.length)).length - j) ⟨0,o⟩ ?_ ?_
  ·exact⟨Nat.zero_le _,by omega,by simp⟩
  rintro⟨j,o2⟩ ⟨hj,ol2,ho2⟩
  by_cases hjl:j < (setOf (mV p b p.acts.length)).length
  ·obtain⟨y0,hy0⟩:∃y0,(setOf (mV p b p.acts.length))[j]? =some y0:=⟨(setOf (mV p b p.acts.length))[j]'hjl,by simp⟩
   (repeat' ((conv=>whnf);first|with_reducible refine Idx.got hy0 rfl ?_|refine gA ?_|(refine gN ?_ ?_<;>intro h hw)|(refine gB ?_ ?_<;>intro h)|(refine gI ?_;intro x hx)|(refine gJ ?_;intro j x hj hx)|refine gP ?_|refine gV ?_|refine gC (jB _) ?_|intro _))<;>try (conv=>whnf)
   ·refine nw ⟨j+1,o2++[[x0,y0]]⟩ ?_ ?_
    ·(repeat' ((conv=>whnf)<;>(first|exact trivial|exact rfl|with_reducible refine And.intro ?_ ?_)))<;>((conv=>whnf)<;>(simp))
    exact⟨by omega,by simp;omega,(kV ho2 hy0).1 (by simp [Qq, *])⟩
   ·refine nx ⟨j+1,o2⟩ ?_
    exact⟨by omega,by omega,(kV ho2 hy0).2 (by simp [Qq, *])⟩
   ·refine nx ⟨j+1,o2⟩ ?_
    exact⟨by omega,by omega,(kV ho2 hy0).2 (by simp [Qq, *])⟩
   ·refine nx ⟨j+1,o2⟩ ?_
    exact⟨by omega,by omega,(kV ho2 hy0).2 (by simp [Qq, *])⟩
   ·exfalso;omega
  ·(repeat' ((conv=>whnf);first|(exfalso;omega)|refine gA ?_|(refine gN ?_ ?_<;>intro h hw)|(refine gB ?_ ?_<;>intro h)|(refine gI ?_;intro x hx)|(refine gJ ?_;intro j x hj hx)|refine gP ?_|refine gV ?_|intro _))<;>try (conv=>whnf)
   refine nx ⟨i+1,o2⟩ ?_
   refine⟨by omega,by omega,?_⟩
   rw [ho2,List.take_of_length_le (by omega)]
   exact Uv ho hx0
open Go.Proofs
def jH (p:Proj):List Rul:=(List.range p.links.length).map kg++(List.range p.acts.length).map endRule++(List.range p.bD.length).map jm
def nH (p:Proj):List Rul:=(List.range p.bS.length).flatMap fun r=>(List.range p.acts.length).flatMap (fA p r)
def CX (b:Dom) (x:iy):List Int:=(setOf (b.hi++x.steps.map Step.at')).filter dD
def Jr (i:Nat) (t:Int):Rul:=⟨3,i,t,0⟩
def LK (i:Nat) (q:List Int):Rul:=⟨4,i,q.getD 0 0,q.getD 1 0⟩
def qJ (p:Proj) (b:Dom) (i:Nat):List Rul:=
 match p.bS[i]? with
 |some x=>(CX b x).map (Jr i)++(intervals p b).map (LK i)
 |none=>[]
def CY (p:Proj) (b:Dom):List Rul:=jH p++(List.range p.bS.length).flatMap (qJ p b)++nH p
def aN (p:Proj) (b:Dom):List Rul:=if usable p b=true then CY p b else []
def iK (r:Rul):Bool:=decide (r.kind=1)||decide (r.kind=2)||decide (r.kind=6)
def kH (r:Rul):Bool:=decide (r.kind=5)
theorem Js {α β:Type} {f:β→Bool} {g:α→β} {l:List α} (h:∀x,f (g x)=true):(l.map g).filter f=l.map g:=List.filter_eq_self.2 fun y hy=>by
 obtain⟨x,_,rfl⟩:=List.mem_map.1 hy;exact h x
theorem Eu {α β:Type} {f:β→Bool} {g:α→β} {l:List α} (h:∀x,f (g x)=false):(l.map g).filter f= []:=List.filter_eq_nil_iff.2 fun y hy=>by
 obtain⟨x,_,rfl⟩:=List.mem_map.1 hy;rw [h x];exact Bool.false_ne_true
theorem NT {p:Proj} {r b:Nat} {y:Rul} (h:y∈fA p r b):y.kind=5:=by
 unfold fA at h
 split at h
 ·obtain⟨j,_,rfl⟩:=List.mem_map.1 h;rfl
 ·simp at h
theorem Jt {n:Nat} {y:Rul} (h:y∈(List.range n).flatMap mP):y.kind=3:=by
 obtain⟨r,_,h⟩:=List.mem_flatMap.1 h
 obtain⟨j,_,rfl⟩:=List.mem_map.1 h;rfl
theorem Ju {p:Proj} {y:Rul} (h:y∈nH p):y.kind=5:=by
 obtain⟨r,_,h⟩:=List.mem_flatMap.1 h
 obtain⟨b,_,h⟩:=List.mem_flatMap.1 h
 exact NT h
theorem Qr (p:Proj):(bA p).filter iK=jH p:=by
 have h1:((List.range p.bS.length).flatMap mP).filter iK= []:=List.filter_eq_nil_iff.2 fun y hy=>by rw [iK,Jt hy];decide
 have h2:((List.range p.bS.length).flatMap fun r=>(List.range p.acts.length).flatMap (fA p r)).filter iK= []:=List.filter_eq_nil_iff.2 fun y hy=>by rw [iK,Ju hy];decide
 simp only [bA,List.filter_append,h1,h2,jH]
 rw [Js (fun _=>rfl),Js (fun _=>rfl),Js (fun _=>rfl)]
 simp
theorem RS (p:Proj):(bA p).filter kH=nH p:=by
 have h1:((List.range p.bS.length).flatMap mP).filter kH= []:=List.filter_eq_nil_iff.2 fun y hy=>by rw [kH,Jt hy];decide
 have h2:((List.range p.bS.length).flatMap fun r=>(List.range p.acts.length).flatMap (fA p r)).filter kH=nH p:=List.filter_eq_self.2 fun y hy=>by rw [kH,Ju hy];rfl
 simp only [bA,List.filter_append,h1,h2]
 rw [Eu (fun _=>rfl),Eu (fun _=>rfl),Eu (fun _=>rfl)]
 simp
theorem mD {α β:Type} {f:α→List β} {c:Nat}:∀{l:List α},(∀x∈l,(f x).length≤c)→(l.flatMap f).length≤c*l.length
 |[],_=>by simp
 |x::l,h=>by
  have h1:=h x (by simp)
  have h2:=mD (l:=l) fun y hy=>h y (by simp [hy])
  simp only [List.flatMap_cons,List.length_append,List.length_cons,Nat.mul_add];omega
theorem LM {p:Proj} (ho:aL p=true):(jH p).length≤20:=by
 have:=lV ho
 simp only [jH,List.length_append,List.length_map,List.length_range];omega
theorem Qs (p:Proj) (r b:Nat):(fA p r b).length≤p.acts.length:=by
 unfold fA;split
 ·simp
 ·simp
theorem Jv {p:Proj} (ho:aL p=true):(nH p).length≤108:=by
 have hs:=lV ho
 have h2:∀r,((List.range p.acts.length).flatMap (fA p r)).length≤36:=fun r=>by
  have:=mD (f:=fA p r) (c:=6) (l:=List.range p.acts.length) fun b _=>Nat.le_trans (Qs p r b) hs.1.2
  simp only [List.length_range] at this;omega
 have:=mD (f:=fun r=>(List.range p.acts.length).flatMap (fA p r)) (c:=36) (l:=List.range p.bS.length) fun r _=>h2 r
 simp only [List.length_range] at this
 show ((List.range p.bS.length).flatMap fun r=>(List.range p.acts.length).flatMap (fA p r)).length≤108
 omega
theorem zB {p:Proj} {b:Dom} (hf:ay p b=true):(intervals p b).length≤36:=by
 unfold intervals
 split
 ·obtain⟨hpo,l1,l2,l3,_⟩:=cZ hf
  have hna:=(fB hpo).Ko
  have h1:=jq b.lo
  have h2:=jq (mV p b p.acts.length)
  rw [LJ] at h2
  have h3:=mD (f:=TG p b) (c:=6) (l:=setOf b.lo) fun x _=>by
   have:=List.length_filter_le (Qq x) (setOf (mV p b p.acts.length))
   simp only [TG,VT,List.length_map];omega
  omega
 ·simp
theorem zC {p:Proj} {b:Dom} {q:List Int} (h:q∈intervals p b):∃x y,q= [x,y]∧dD x=true∧dD y=true∧x < y:=by
 unfold intervals at h
 split at h
 ·obtain⟨x,_,h⟩:=List.mem_flatMap.1 h
  obtain⟨y,hy,rfl⟩:=List.mem_map.1 h
  have:=(List.mem_filter.1 hy).2
  simp only [Qq,Bool.and_eq_true,decide_eq_true_eq] at this
  exact⟨x,y,rfl,this.1.1,this.1.2,this.2⟩
 ·simp at h
theorem LP {p:Proj} (ho:aL p=true) {k:Nat} {x:iy} (h:p.bS[k]? =some x):x.steps.length≤8:=by
 have:=(fB ho).res k x h
 simp only [jV,Bool.and_eq_true,iY,within_iff] at this
 omega
theorem Uw {p:Proj} (ho:aL p=true):(bA p).length≤400:=by
 have hs:=lV ho
 have h1:=mD (f:=mP) (c:=61) (l:=List.range p.bS.length) fun r _=>by simp [mP]
 have h2:((List.range p.bS.length).flatMap fun r=>(List.range p.acts.length).flatMap (fA p r)).length≤108:=Jv ho
 simp only [List.length_range] at h1
 simp only [bA,List.length_append,List.length_map,List.length_range];omega
theorem Fx {α:Type} (f:α→Bool) {l:List α} {k:Nat} {x:α} (h:l[k]? =some x):(l.take (k+1)).filter f=(l.take k).filter f++if f x=true then [x] else []:=by
 obtain⟨hk,rfl⟩:=List.getElem?_eq_some_iff.1 h
 rw [List.take_succ_eq_append_getElem hk,List.filter_append]
 congr 1
 simp [List.filter_cons]
theorem Ux {t u:List Int} (x:Int) (h:setOf t=setOf u):setOf (t++[x])=setOf (u++[x]):=by rw [← Jl,h,Jl]
theorem Qt {α β:Type} (f:α→β) {l:List α} {k:Nat} {x:α} (h:l[k]? =some x):(l.take (k+1)).map f=(l.take k).map f++[f x]:=(iP f h).symm
theorem Fy {p:Proj} {b:Dom} {i:Nat} {x:iy} (h:p.bS[i]? =some x):qJ p b i=(CX b x).map (Jr i)++(intervals p b).map (LK i):=by simp only [qJ,h]
theorem RU {α:Type} (f:Nat→List α) (n:Nat):(List.range (n+1)).flatMap f=(List.range n).flatMap f++f n:=by rw [List.range_succ,List.flatMap_append];simp
theorem jd (p:Proj) (b:Dom) (hp:p.fine):Con 18 [.d p.av,.d b.av] (.d (.sl ((aN p b).map Rul.av))):=by
 refine con Tryz.func18 rfl rfl Tryz.call18 rfl fun hwf=>?_
 simp only [ARs.wf,AR.wf,AV.wf,AV.wfs,lm,lim] at hwf
 cases hu:usable p b with
 |false=>
  (repeat' ((conv=>whnf);first|refine gA ?_|(refine gN ?_ ?_<;>intro h hw)|(refine gB ?_ ?_<;>intro h)|(refine gI ?_;intro x hx)|(refine gJ ?_;intro j x hj hx)|refine gP ?_|refine gV ?_|refine gC (gL p b hp) ?_|intro _))<;>try (conv=>whnf)
  refine⟨?_,rfl,trivial⟩;rw [aN,if_neg (by rw [hu];exact Bool.false_ne_true)];rfl
 |true=>
  rw [aN,if_pos hu]
  have hf:=(mW hu).1
  obtain⟨hpo,l1,l2,l3,_⟩:=cZ hf
  have hna:=(fB hpo).Ko
  obtain⟨_,hr3,_,_⟩:=lV hpo
  have hpl:=LM hpo
  have hpp:=Jv hpo
  have hiv:=zB hf
  (repeat' ((conv=>whnf);first|refine gA ?_|(refine gN ?_ ?_<;>intro h hw)|(refine gB ?_ ?_<;>intro h)|(refine gI ?_;intro x hx)|(refine gJ ?_;intro j x hj hx)|refine gP ?_|refine gV ?_|refine gC (gL p b hp) ?_|refine gC (Jo p hpo) ?_|intro _))<;>try (conv=>whnf)
  refine aB [2,3,25,26] [2,3] [22,23] ?_
  (conv=>whnf)
  refine aA.go ((Nat)×(List Rul)×(List Rul)) (fun⟨k,o,q⟩=>(k≤(bA p).length)∧(o.length≤k)∧(q.length≤k)∧(o=((bA p).take k).filter iK)∧(q=((bA p).take k).filter kH)) (fun⟨k,o,q⟩=>[(27,.data (i64 k)),(5,.own 22 0),(6,.own 23 0)]) (fun _=>[]) (fun⟨k,o,q⟩=>[(22,35,o.map Rul.av,0),(23,35,q.map Rul.av,0)]) (fun⟨k,o,q⟩=>(bA p).length - k) ⟨0,[],[]⟩ ?_ ?_
  ·exact⟨Nat.zero_le _,Nat.le_refl _,Nat.le_refl _,rfl,rfl⟩
  rintro⟨k,o,q⟩ ⟨hk,ol,ql,ho,hq⟩
  by_cases hlt:k < (bA p).length
  ·obtain⟨r,hr⟩:∃r,(bA p)[k]? =some r:=⟨(bA p)[k]'hlt,by simp⟩
   have hrl:=Uw hpo
   have hsp:=Fx iK hr
   have hsq:=Fx kH hr
   (repeat' ((conv=>whnf);first|with_reducible refine Idx.got hr rfl ?_|refine gA ?_|(refine gN ?_ ?_<;>intro h hw)|(refine gB ?_ ?_<;>intro h)|(refine gI ?_;intro x hx)|(refine gJ ?_;intro j x hj hx)|refine gP ?_|refine gV ?_|intro _))<;>try (conv=>whnf)
   ·refine nw ⟨k+1,o++[r],q⟩ ?_ ?_
    ·(repeat' ((conv=>whnf)<;>(first|exact trivial|exact rfl|with_reducible refine And.intro ?_ ?_)))<;>((conv=>whnf)<;>(simp))
    have e1:iK r=true:=by simp [iK, *]
    have e2:kH r=false:=by simp [kH, *]
    exact⟨by omega,by simp;omega,by omega,by rw [hsp,e1,ho];rfl,by rw [hsq,e2,hq];simp⟩
   ·refine nw ⟨k+1,o++[r],q⟩ ?_ ?_
    ·(repeat' ((conv=>whnf)<;>(first|exact trivial|exact rfl|with_reducible refine And.intro ?_ ?_)))<;>((conv=>whnf)<;>(simp))
    have e1:iK r=true:=by simp [iK, *]
    have e2:kH r=false:=by simp [kH, *]
    exact⟨by omega,by simp;omega,by omega,by rw [hsp,e1,ho];rfl,by rw [hsq,e2,hq];simp⟩
   ·refine nw ⟨k+1,o++[r],q⟩ ?_ ?_
    ·(repeat' ((conv=>whnf)<;>(first|exact trivial|exact rfl|with_reducible refine And.intro ?_ ?_)))<;>((conv=>whnf)<;>(simp))
    have e1:iK r=true:=by simp [iK, *]
    have e2:kH r=false:=by simp [kH, *]
    exact⟨by omega,by simp;omega,by omega,by rw [hsp,e1,ho];rfl,by rw [hsq,e2,hq];simp⟩
   ·refine nw ⟨k+1,o,q++[r]⟩ ?_ ?_
    ·(repeat' ((conv=>whnf)<;>(first|exact trivial|exact rfl|with_reducible refine And.intro ?_ ?_)))<;>((conv=>whnf)<;>(simp))
    have e1:iK r=false:=by simp [iK, *]
    have e2:kH r=true:=by simp [kH, *]
    exact⟨by omega,by omega,by simp;omega,by rw [hsp,e1,ho];simp,by rw [hsq,e2,hq];rfl⟩
   ·refine nx ⟨k+1,o,q⟩ ?_
    have e1:iK r=false:=by simp [iK, *]
    have e2:kH r=false:=by simp [kH, *]
    exact⟨by omega,by omega,by omega,by rw [hsp,e1,ho];simp,by rw [hsq,e2,hq];simp⟩
   ·exfalso;omega
  (repeat' ((conv=>whnf);first|(exfalso;omega)|refine gA ?_|(refine gN ?_ ?_<;>intro h hw)|(refine gB ?_ ?_<;>intro h)|(refine gI ?_;intro x hx)|(refine gJ ?_;intro j x hj hx)|refine gP ?_|refine gV ?_|intro _))<;>try (conv=>whnf)
  have ho':o=jH p:=by rw [ho,List.take_of_length_le (by omega),Qr]
  have hq':q=nH p:=by rw [hq,List.take_of_length_le (by omega),RS]
  clear ho hq ol ql hlt hk
  subst ho' hq'
  refine aB [2,3,6,49,50] [2,3] [22] ?_
  (conv=>whnf)
  refine aA.go ((Nat)×(List Rul)) (fun⟨i,o⟩=>(i≤p.bS.length)∧(o.length≤20+50*i)∧(o=jH p++(List.range i).flatMap (qJ p b))) (fun⟨i,o⟩=>[(51,.data (i64 i)),(5,.own 22 0)]) (fun _=>[]) (fun⟨i,o⟩=>[(22,35,o.map Rul.av,0)]) (fun⟨i,o⟩=>p.bS.length - i) ⟨0,jH p⟩ ?_ ?_
  ·exact⟨Nat.zero_le _,by omega,by simp⟩
  rintro⟨i,o⟩ ⟨hi,ol,ho⟩
  by_cases hil:i < p.bS.length
  rotate_left
  ·(repeat' ((conv=>whnf);first|(exfalso;omega)|refine gA ?_|(refine gN ?_ ?_<;>intro h hw)|(refine gB ?_ ?_<;>intro h)|(refine gI ?_;intro x hx)|(refine gJ ?_;intro j x hj hx)|refine gP ?_|refine gV ?_|intro _))<;>try (conv=>whnf)
   refine⟨?_,rfl,trivial⟩
   rw [CY,ho,show i=p.bS.length by omega];simp
  obtain⟨x,hx⟩:∃x,p.bS[i]? =some x:=⟨p.bS[i]'hil,by simp⟩
  have hst:=LP hpo hx
  (repeat' ((conv=>whnf);first|with_reducible refine Idx.got hx rfl ?_|refine gA ?_|(refine gN ?_ ?_<;>intro h hw)|(refine gB ?_ ?_<;>intro h)|(refine gI ?_;intro x hx)|(refine gJ ?_;intro j x hj hx)|refine gP ?_|refine gV ?_|intro _))<;>try (conv=>whnf)
  rotate_left
  ·exact trivial
  refine aB [2,3,5,6,9,49,50,51,59,60] [2,3] [] ?_
  (conv=>whnf)
  refine aA.go ((Nat)×(List Int)) (fun⟨j,t⟩=>(j≤x.steps.length)∧(t.length≤6+j)∧(setOf t=setOf (b.hi++(x.steps.take j).map Step.at'))) (fun⟨j,t⟩=>[(61,.data (i64 j)),(11,.data (ints t))]) (fun _=>[]) (fun _=>[]) (fun⟨j,t⟩=>x.steps.length - j) ⟨0,b.hi⟩ ?_ ?_
  ·exact⟨Nat.zero_le _,by omega,by simp⟩
  rintro⟨j,t⟩ ⟨hj,tl,ht⟩
  by_cases hjl:j < x.steps.length
  ·obtain⟨s,hs⟩:∃s,x.steps[j]? =some s:=⟨x.steps[j]'hjl,by simp⟩
   have hs1:t.length < lim:=by unfold lim;omega
   have hs2:=jq (t++[s.at'])
   simp only [List.length_append,List.length_cons,List.length_nil] at hs2
   (repeat' ((conv=>whnf);first|with_reducible refine Idx.got hs rfl ?_|refine gA ?_|(refine gN ?_ ?_<;>intro h hw)|(refine gB ?_ ?_<;>intro h)|(refine gI ?_;intro x hx)|(refine gJ ?_;intro j x hj hx)|refine gP ?_|refine gV ?_|refine gC (Qo t s.at' hs1) ?_|intro _))<;>try (conv=>whnf)
   ·refine nx ⟨j+1,setOf (t++[s.at'])⟩ ?_
    refine⟨by omega,by omega,?_⟩
    rw [Qn,Ux _ ht,Qt Step.at' hs,List.append_assoc]
   ·exfalso;omega
  (repeat' ((conv=>whnf);first|(exfalso;omega)|refine gA ?_|(refine gN ?_ ?_<;>intro h hw)|(refine gB ?_ ?_<;>intro h)|(refine gI ?_;intro x hx)|(refine gJ ?_;intro j x hj hx)|refine gP ?_|refine gV ?_|refine gC (nG t) ?_|intro _))<;>try (conv=>whnf)
  rw [List.take_of_length_le (by omega)] at ht
  have htl:=jq t
  refine aB [2,3,6,9,49,50,51,71,72] [2,3] [22] ?_
  (conv=>whnf)
  refine aA.go ((Nat)×(List Rul)) (fun⟨m,o3⟩=>(m≤(setOf t).length)∧(o3.length≤20+50*i+m)∧(o3=o++(((setOf t).take m).filter dD).map (Jr i))) (fun⟨m,o3⟩=>[(73,.data (i64 m)),(5,.own 22 0)]) (fun _=>[]) (fun⟨m,o3⟩=>[(22,35,o3.map Rul.av,0)]) (fun⟨m,o3⟩=>(setOf t).length - m) ⟨0,o⟩ ?_ ?_
  ·exact⟨Nat.zero_le _,by omega,by simp⟩
  rintro⟨m,o3⟩ ⟨hm,ol3,ho3⟩
  by_cases hml:m < (setOf t).length
  ·obtain⟨v,hv⟩:∃v,(setOf t)[m]? =some v:=⟨(setOf t)[m]'hml,by simp⟩
   (repeat' ((conv=>whnf);first|with_reducible refine Idx.got hv rfl ?_|refine gA ?_|(refine gN ?_ ?_<;>intro h hw)|(refine gB ?_ ?_<;>intro h)|(refine gI ?_;intro x hx)|(refine gJ ?_;intro j x hj hx)|refine gP ?_|refine gV ?_|refine gC (jB v) ?_|intro _))<;>try (conv=>whnf)
   ·refine nw ⟨m+1,o3++[Jr i v]⟩ ?_ ?_
    ·(repeat' ((conv=>whnf)<;>(first|exact trivial|exact rfl|with_reducible refine And.intro ?_ ?_)))<;>((conv=>whnf)<;>((simp [Jr];try rfl)))
    exact⟨by omega,by simp;omega,(kV ho3 hv).1 (by assumption)⟩
   ·refine nx ⟨m+1,o3⟩ ?_
    exact⟨by omega,by omega,(kV ho3 hv).2 (by assumption)⟩
   ·exfalso;omega
  (repeat' ((conv=>whnf);first|(exfalso;omega)|refine gA ?_|(refine gN ?_ ?_<;>intro h hw)|(refine gB ?_ ?_<;>intro h)|(refine gI ?_;intro x hx)|(refine gJ ?_;intro j x hj hx)|refine gP ?_|refine gV ?_|refine gC (Jq p b hp) ?_|intro _))<;>try (conv=>whnf)
  have aaE:o3=o++(CX b x).map (Jr i):=by rw [ho3,List.take_of_length_le (by omega),CX,ht]
  have aaL:o3.length≤20+50*i+14:=by omega
  clear ho3 ol3 hml hm
  refine aB [2,3,6,9,49,50,51,88,89] [2,3] [22] ?_
  (conv=>whnf)
  refine aA.go ((Nat)×(List Rul)) (fun⟨n,o4⟩=>(n≤(intervals p b).length)∧(o4.length≤34+50*i+n)∧(o4=o3++((intervals p b).take n).map (LK i))) (fun⟨n,o4⟩=>[(90,.data (i64 n)),(5,.own 22 0)]) (fun _=>[]) (fun⟨n,o4⟩=>[(22,35,o4.map Rul.av,0)]) (fun⟨n,o4⟩=>(intervals p b).length - n) ⟨0,o3⟩ ?_ ?_
  ·exact⟨Nat.zero_le _,by omega,by simp⟩
  rintro⟨n,o4⟩ ⟨hn,ol4,ho4⟩
  by_cases hnl:n < (intervals p b).length
  ·obtain⟨q2,hq2⟩:∃q2,(intervals p b)[n]? =some q2:=⟨(intervals p b)[n]'hnl,by simp⟩
   obtain⟨u,v,rfl,_⟩:=zC (List.mem_of_getElem? hq2)
   (repeat' ((conv=>whnf);first|with_reducible refine Idx.got hq2 rfl ?_|with_reducible refine Idx.got (l:=[u,v]) (k:=0) rfl rfl ?_|with_reducible refine Idx.got (l:=[u,v]) (k:=1) rfl rfl ?_|refine gA ?_|(refine gN ?_ ?_<;>intro h hw)|(refine gB ?_ ?_<;>intro h)|(refine gI ?_;intro x hx)|(refine gJ ?_;intro j x hj hx)|refine gP ?_|refine gV ?_|intro _))<;>try (conv=>whnf)
   ·refine nw ⟨n+1,o4++[LK i [u,v]]⟩ ?_ ?_
    ·(repeat' ((conv=>whnf)<;>(first|exact trivial|exact rfl|with_reducible refine And.intro ?_ ?_)))<;>((conv=>whnf)<;>((simp [LK];try rfl)))
    exact⟨by omega,by simp;omega,by rw [ho4,Qt _ hq2,List.append_assoc]⟩
   all_goals (first|(exfalso;omega)|exact trivial)
  ·(repeat' ((conv=>whnf);first|(exfalso;omega)|refine gA ?_|(refine gN ?_ ?_<;>intro h hw)|(refine gB ?_ ?_<;>intro h)|(refine gI ?_;intro x hx)|(refine gJ ?_;intro j x hj hx)|refine gP ?_|refine gV ?_|intro _))<;>try (conv=>whnf)
   refine nx ⟨i+1,o4⟩ ?_
   refine⟨by omega,by omega,?_⟩
   rw [ho4,aaE,ho,List.take_of_length_le (by omega),RU,Fy hx];simp
end Go.Proofs.YtjfnojijdggfhaaGreat.Abs
