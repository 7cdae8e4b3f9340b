/- Contracts: intervals; the rules that may refute. -/
import Derived.Test.YtefgamefajmdkaaGreatC27
import Derived.Test.YtefgamefajmdkaaGreatC20a
set_option linter.all false
set_option maxRecDepth 20000
set_option maxHeartbeats 0
namespace Go.Proofs.YtefgamefajmdkaaGreat.Abs
open Go.Proofs
def RF:Bool→Int→List Int→Int
 |_,n,[]=>n
 |b,n,x::r=>RF false (if b=true∨x > n then x else n) r
def CO (a:aH) (ms:List Int):Int:=RF true 0 ((chosen a ms).map Mode.dur)
theorem KL {c:Int}:∀(l:List Int) (b:Bool) (n:Int),(0≤n∧n≤c)→(∀x∈l,0≤x∧x≤c)→0≤RF b n l∧RF b n l≤c
 |[],_,n,h,_=>h
 |x::r,b,n,h,h'=>by
  rw [RF]
  refine KL r false _ ?_ fun y hy=>h' y (by simp [hy])
  split
  ·exact h' x (by simp)
  ·exact h
theorem Pk {a:aH} {r s:Int} (h:bG a r s=true) (ms:List Int):0≤CO a ms∧CO a ms≤12:=by
 refine KL _ _ _ (by omega) fun x hx=>?_
 obtain⟨m,hm,rfl⟩:=List.mem_map.1 hx
 have:=(jV h (wB hm)).1
 omega
theorem Gq (a:aH) (ms:List Int):Con 224 [.d a.av,.d (ints ms)] (.d (i64 (CO a ms))):=by
 refine con Tryz.func224 rfl rfl Tryz.call224 rfl fun hwf=>?_
 simp only [ARs.wf,AR.wf,AV.wf,AV.wfs,lm,lim] at hwf
 (repeat' ((conv=>whnf);first|refine gA ?_|(refine gB ?_ ?_<;>intro h)|(refine gI ?_;intro x hx)|(refine gJ ?_;intro j x hj hx)|refine gV ?_|intro _))<;>try (conv=>whnf)
 refine aB [1,10,11] [] [] ?_
 (conv=>whnf)
 refine aA.go ((Nat)×(Int)×(Bool)) (fun⟨k,n,b⟩=>(k≤a.modes.length)∧(RF (!b) n ((aS ms (a.modes.drop k) k).map Mode.dur)=CO a ms)) (fun⟨k,n,b⟩=>[(12,.data (i64 k)),(5,.data (i64 n)),(6,.data (.bool b))]) (fun _=>[]) (fun _=>[]) (fun⟨k,n,b⟩=>a.modes.length - k) ⟨0,0,false⟩ ?_ ?_
 ·exact⟨by omega,rfl⟩
 rintro⟨k,n,b⟩ ⟨hk,hi⟩
 (repeat' ((conv=>whnf);first|refine gA ?_|(refine gB ?_ ?_<;>intro h)|(refine gI ?_;intro x hx)|(refine gJ ?_;intro j x hj hx)|refine gV ?_|refine gC (eT ms _) ?_|intro _))<;>try (conv=>whnf)
 all_goals first
  |(refine⟨?_,rfl,trivial⟩;rw [← hi,aG (by assumption)];rfl)
  |(refine nx ⟨k+1,x.dur,true⟩ ?_
    refine⟨by omega,?_⟩
    rw [au hx,aS,if_pos (by assumption),List.map_cons,RF,if_pos (by simp [*])] at hi
    exact hi)
  |(refine nx ⟨k+1,n,b⟩ ?_
    refine⟨by omega,?_⟩
    rw [au hx,aS,if_neg (Bool.eq_false_iff.1 (by assumption))] at hi
    exact hi)
  |(refine nx ⟨k+1,n,b⟩ ?_
    refine⟨by omega,?_⟩
    rw [au hx,aS,if_pos (by assumption),List.map_cons,RF,if_neg (by simp [*])] at hi
    rw [← hi];simp [*])
def Pm (p:Proj) (b:Dom) (i:Nat):Int:=b.hi.getD i 0+CO (bf p i) (b.modes.getD i [])
def nk (p:Proj) (b:Dom) (k:Nat):List Int:=(List.range k).map (Pm p b)
abbrev Xo (p:Proj) (b:Dom):List Int:=setOf (nk p b p.acts.length)
def RG (x y:Int):Bool:=bC x&&bC y&&decide (x < y)
def Uz (p:Proj) (b:Dom) (x:Int):List (List Int):=((Xo p b).filter (RG x)).map fun y=>[x,y]
def intervals (p:Proj) (b:Dom):List (List Int):=if usable p b=true then (setOf b.lo).flatMap (Uz p b) else []
theorem VB {p:Proj} {b:Dom} {k:Nat} {a:aH} {x y:Int} {m:List Int} (g:dW p b k a x y m):Pm p b k=y+CO a m:=by
 simp [Pm,bf,List.getD_eq_getElem?_getD,g.act,g.hi,g.modes]
theorem TH (p:Proj) (b:Dom) (k:Nat):nk p b (k+1)=nk p b k++[Pm p b k]:=by simp [nk,List.range_succ]
theorem Ng (p:Proj) (b:Dom) (k:Nat):(nk p b k).length=k:=by simp [nk]
theorem VD {α β:Type} {f:α→List β} {l:List α} {k:Nat} {x:α} {o:List β} (ho:o=(l.take k).flatMap f) (h:l[k]? =some x):o++f x=(l.take (k+1)).flatMap f:=by
 obtain⟨hk,rfl⟩:=List.getElem?_eq_some_iff.1 h
 rw [ho,List.take_succ_eq_append_getElem hk,List.flatMap_append];simp
theorem lS {α β:Type} {f:α→Bool} {g:α→β} {l:List α} {k:Nat} {x:α} {q o:List β} (ho:o=q++((l.take k).filter f).map g) (h:l[k]? =some x):
  (f x=true→o++[g x]=q++((l.take (k+1)).filter f).map g)∧(f x=false→o=q++((l.take (k+1)).filter f).map g):=by
 obtain⟨hk,rfl⟩:=List.getElem?_eq_some_iff.1 h
 rw [List.take_succ_eq_append_getElem hk,List.filter_append]
 exact⟨fun hf=>by rw [ho];simp [hf],fun hf=>by rw [ho];simp [hf]⟩
theorem lT {p:Proj} {b:Dom} (h:usable p b=true):aC p b=true∧aZ b=false:=by simpa [usable] using h
theorem oD (p:Proj) (b:Dom) (hp:p.fine):Con 97 [.d p.av,.d b.av] (.d (.bool (usable p b))):=by
 refine con Tryz.func97 rfl rfl Tryz.call97 rfl fun hwf=>?_
 (repeat' ((conv=>whnf);first|refine gA ?_|(refine gB ?_ ?_<;>intro h)|refine gC (dw p b hp) ?_|refine gC (bZ b) ?_|intro _))<;>try (conv=>whnf)
 all_goals refine⟨?_,rfl,trivial⟩
 all_goals simp [usable, *]
theorem KM (p:Proj) (b:Dom) (hp:p.fine):Con 165 [.d p.av,.d b.av] (.d (.sl ((intervals p b).map ints))):=by
 refine con Tryz.func165 rfl rfl Tryz.call165 rfl fun hwf=>?_
 simp only [ARs.wf,AR.wf,AV.wf,AV.wfs,lm,lim] at hwf
 cases hu:usable p b with
 |false=>
  (repeat' ((conv=>whnf);first|refine gA ?_|(refine gN ?_ ?_<;>intro h hw)|(refine gB ?_ ?_<;>intro h)|(refine gI ?_;intro x hx)|(refine gJ ?_;intro j x hj hx)|refine gP ?_|refine gV ?_|refine gC (oD p b hp) ?_|intro _))<;>try (conv=>whnf)
  refine⟨?_,rfl,trivial⟩;rw [intervals,if_neg (by rw [hu];exact Bool.false_ne_true)];rfl
 |true=>
  rw [intervals,if_pos hu]
  have hf:=(lT hu).1
  obtain⟨hpo,l1,l2,l3,_⟩:=bD hf
  have hna:=(eD hpo).LG
  have hel:=Ng p b
  have hsl:=jf b.lo
  have hse:(setOf (nk p b p.acts.length)).length≤p.acts.length:=by have:=jf (nk p b p.acts.length);rw [hel] at this;exact this
  (repeat' ((conv=>whnf);first|refine gA ?_|(refine gN ?_ ?_<;>intro h hw)|(refine gB ?_ ?_<;>intro h)|(refine gI ?_;intro x hx)|(refine gJ ?_;intro j x hj hx)|refine gP ?_|refine gV ?_|refine gC (oD p b hp) ?_|intro _))<;>try (conv=>whnf)
  refine aB [2,3,5,20] [2,3] [] ?_
  (conv=>whnf)
  refine aA.go ((Nat)) (fun k=>(k≤p.acts.length)) (fun k=>[(21,.data (i64 k)),(6,.data (ints (setOf (nk p b k))))]) (fun _=>[]) (fun _=>[]) (fun k=>p.acts.length - k) (0) ?_ ?_
  ·exact Nat.zero_le _
  rintro k hk
  have hek:=hel k
  have hsk:=jf (nk p b k)
  by_cases hlt:k < p.acts.length
  ·obtain⟨a,lo,up,m,g⟩:=dR hf hlt
   have h1:=g.hib
   have h2:=Pk g.aok m
   have hs1:(setOf (nk p b k)).length < lim:=by unfold lim;omega
   (repeat' ((conv=>whnf);first|with_reducible refine Idx.got g.act rfl ?_|with_reducible refine Idx.got g.hi rfl ?_|with_reducible refine Idx.got g.modes rfl ?_|refine gA ?_|(refine gN ?_ ?_<;>intro h hw)|(refine gB ?_ ?_<;>intro h)|(refine gI ?_;intro x hx)|(refine gJ ?_;intro j x hj hx)|refine gP ?_|refine gV ?_|refine gC (Gq a m) ?_|refine gC (za (setOf (nk p b k)) (up+CO a m) hs1) ?_|intro _))<;>try (conv=>whnf)
   ·refine nw (k+1) ?_ ?_
    ·(repeat' ((conv=>whnf)<;>(first|exact trivial|exact rfl|with_reducible refine And.intro ?_ ?_)))<;>((conv=>whnf)<;>((rw [TH,VB g,KI])))
    exact (by omega:k+1≤p.acts.length)
   ·exfalso;omega
  (repeat' ((conv=>whnf);first|(exfalso;omega)|refine gA ?_|(refine gN ?_ ?_<;>intro h hw)|(refine gB ?_ ?_<;>intro h)|(refine gI ?_;intro x hx)|(refine gJ ?_;intro j x hj hx)|refine gP ?_|refine gV ?_|refine gC (oz b.lo) ?_|intro _))<;>try (conv=>whnf)
  rw [show k=p.acts.length by omega]
  refine aB [6,46,47] [] [12] ?_
  (conv=>whnf)
  refine aA.go ((Nat)×(List (List Int))) (fun⟨i,o⟩=>(i≤(setOf b.lo).length)∧(o.length≤6*i)∧(o=((setOf b.lo).take i).flatMap (Uz p b))) (fun⟨i,o⟩=>[(48,.data (i64 i)),(5,.own 12 0)]) (fun _=>[]) (fun⟨i,o⟩=>[(12,26,o.map ints,0)]) (fun⟨i,o⟩=>(setOf b.lo).length - i) ⟨0,[]⟩ ?_ ?_
  ·exact⟨Nat.zero_le _,by simp,by simp⟩
  rintro⟨i,o⟩ ⟨hi,ol,ho⟩
  by_cases hil:i < (setOf b.lo).length
  rotate_left
  ·(repeat' ((conv=>whnf);first|(exfalso;omega)|refine gA ?_|(refine gN ?_ ?_<;>intro h hw)|(refine gB ?_ ?_<;>intro h)|(refine gI ?_;intro x hx)|(refine gJ ?_;intro j x hj hx)|refine gP ?_|refine gV ?_|intro _))<;>try (conv=>whnf)
   refine⟨?_,rfl,trivial⟩
   rw [ho,List.take_of_length_le (by omega)]
  obtain⟨x0,hx0⟩:∃x0,(setOf b.lo)[i]? =some x0:=⟨(setOf b.lo)[i]'hil,by simp⟩
  (repeat' ((conv=>whnf);first|with_reducible refine Idx.got hx0 rfl ?_|refine gA ?_|(refine gN ?_ ?_<;>intro h hw)|(refine gB ?_ ?_<;>intro h)|(refine gI ?_;intro x hx)|(refine gJ ?_;intro j x hj hx)|refine gP ?_|refine gV ?_|intro _))<;>try (conv=>whnf)
  rotate_left
  ·exact trivial
  refine aB [6,9,46,47,48,52,53] [] [12] ?_
  (conv=>whnf)
  refine aA.go ((Nat)×(List (List Int))) (fun⟨j,o2⟩=>(j≤(setOf (nk p b p.acts.length)).length)∧(o2.length≤6*i+j)∧(o2=o++(((setOf (nk p b p.acts.length)).take j).filter (RG x0)).map (fun y=>[x0,y]))) (fun⟨j,o2⟩=>[(54,.data (i64 j)),(5,.own 12 0)]) (fun _=>[]) (fun⟨j,o2⟩=>[(12,26,o2.map ints,0)]) (fun⟨j,o2⟩=>(setOf (nk p b p.acts.length)).length - j) ⟨0,o⟩ ?_ ?_
  ·exact⟨Nat.zero_le _,by omega,by simp⟩
  rintro⟨j,o2⟩ ⟨hj,ol2,ho2⟩
  by_cases hjl:j < (setOf (nk p b p.acts.length)).length
  ·obtain⟨y0,hy0⟩:∃y0,(setOf (nk p b p.acts.length))[j]? =some y0:=⟨(setOf (nk p b p.acts.length))[j]'hjl,by simp⟩
   (repeat' ((conv=>whnf);first|with_reducible refine Idx.got hy0 rfl ?_|refine gA ?_|(refine gN ?_ ?_<;>intro h hw)|(refine gB ?_ ?_<;>intro h)|(refine gI ?_;intro x hx)|(refine gJ ?_;intro j x hj hx)|refine gP ?_|refine gV ?_|refine gC (dh _ _ _) ?_|intro _))<;>try (conv=>whnf)
   ·refine nw ⟨j+1,o2++[[x0,y0]]⟩ ?_ ?_
    ·(repeat' ((conv=>whnf)<;>(first|exact trivial|exact rfl|with_reducible refine And.intro ?_ ?_)))<;>((conv=>whnf)<;>(simp))
    exact⟨by omega,by simp;omega,(lS ho2 hy0).1 (by simp [RG,bC, *])⟩
   ·refine nx ⟨j+1,o2⟩ ?_
    exact⟨by omega,by omega,(lS ho2 hy0).2 (by simp [RG,bC, *])⟩
   ·refine nx ⟨j+1,o2⟩ ?_
    exact⟨by omega,by omega,(lS ho2 hy0).2 (by simp [RG,bC, *])⟩
   ·refine nx ⟨j+1,o2⟩ ?_
    exact⟨by omega,by omega,(lS ho2 hy0).2 (by simp [RG,bC, *])⟩
   ·exfalso;omega
  ·(repeat' ((conv=>whnf);first|(exfalso;omega)|refine gA ?_|(refine gN ?_ ?_<;>intro h hw)|(refine gB ?_ ?_<;>intro h)|(refine gI ?_;intro x hx)|(refine gJ ?_;intro j x hj hx)|refine gP ?_|refine gV ?_|intro _))<;>try (conv=>whnf)
   refine nx ⟨i+1,o2⟩ ?_
   refine⟨by omega,by omega,?_⟩
   rw [ho2,List.take_of_length_le (by omega)]
   exact VD ho hx0
open Go.Proofs
def mW (p:Proj):List Rul:=(List.range p.links.length).map jo++(List.range p.acts.length).map endRule++(List.range p.aY.length).map gZ
def Gt (p:Proj):List Rul:=(List.range p.bB.length).flatMap fun r=>(List.range p.acts.length).flatMap (fO p r)
def EM (b:Dom) (x:fE):List Int:=(setOf (b.hi++x.steps.map Step.at')).filter bC
def KN (i:Nat) (t:Int):Rul:=⟨3,i,t,0⟩
def Nh (i:Nat) (q:List Int):Rul:=⟨4,i,q.getD 0 0,q.getD 1 0⟩
def rW (p:Proj) (b:Dom) (i:Nat):List Rul:=
 match p.bB[i]? with
 |some x=>(EM b x).map (KN i)++(intervals p b).map (Nh i)
 |none=>[]
def gD (p:Proj) (b:Dom):List Rul:=mW p++(List.range p.bB.length).flatMap (rW p b)++Gt p
def iK (p:Proj) (b:Dom):List Rul:=if usable p b=true then gD p b else []
theorem pJ {α β:Type} {f:α→List β} {c:Nat}:∀{l:List α},(∀x∈l,(f x).length≤c)→(l.flatMap f).length≤c*l.length
 |[],_=>by simp
 |x::l,h=>by
  have h1:=h x (by simp)
  have h2:=pJ (l:=l) fun y hy=>h y (by simp [hy])
  simp only [List.flatMap_cons,List.length_append,List.length_cons,Nat.mul_add];omega
theorem Ni {p:Proj} (ho:aF p=true):(mW p).length≤20:=by
 have:=oC ho
 simp only [mW,List.length_append,List.length_map,List.length_range];omega
theorem RH (p:Proj) (r b:Nat):(fO p r b).length≤p.acts.length:=by
 unfold fO;split
 ·simp
 ·simp
theorem Xp {p:Proj} (ho:aF p=true):(Gt p).length≤108:=by
 have hs:=oC ho
 have h2:∀r,((List.range p.acts.length).flatMap (fO p r)).length≤36:=fun r=>by
  have:=pJ (f:=fO p r) (c:=6) (l:=List.range p.acts.length) fun b _=>Nat.le_trans (RH p r b) hs.1.2
  simp only [List.length_range] at this;omega
 have:=pJ (f:=fun r=>(List.range p.acts.length).flatMap (fO p r)) (c:=36) (l:=List.range p.bB.length) fun r _=>h2 r
 simp only [List.length_range] at this
 show ((List.range p.bB.length).flatMap fun r=>(List.range p.acts.length).flatMap (fO p r)).length≤108
 omega
theorem Bo {p:Proj} {b:Dom} (hf:aC p b=true):(intervals p b).length≤36:=by
 unfold intervals
 split
 ·obtain⟨hpo,l1,l2,l3,_⟩:=bD hf
  have hna:=(eD hpo).LG
  have h1:=jf b.lo
  have h2:=jf (nk p b p.acts.length)
  rw [Ng] at h2
  have h3:=pJ (f:=Uz p b) (c:=6) (l:=setOf b.lo) fun x _=>by
   have:=List.length_filter_le (RG x) (setOf (nk p b p.acts.length))
   simp only [Uz,Xo,List.length_map];omega
  omega
 ·simp
theorem Bp {p:Proj} {b:Dom} {q:List Int} (h:q∈intervals p b):∃x y,q= [x,y]∧bC x=true∧bC y=true∧x < y:=by
 unfold intervals at h
 split at h
 ·obtain⟨x,_,h⟩:=List.mem_flatMap.1 h
  obtain⟨y,hy,rfl⟩:=List.mem_map.1 h
  have:=(List.mem_filter.1 hy).2
  simp only [RG,Bool.and_eq_true,decide_eq_true_eq] at this
  exact⟨x,y,rfl,this.1.1,this.1.2,this.2⟩
 ·simp at h
theorem Nj {p:Proj} (ho:aF p=true) {k:Nat} {x:fE} (h:p.bB[k]? =some x):x.steps.length≤8:=by
 have:=(eD ho).res k x h
 simp only [kN,Bool.and_eq_true,gY,within_iff] at this
 omega
theorem RI {α β:Type} (f:α→β) {l:List α} {k:Nat} {x:α} (h:l[k]? =some x):(l.take (k+1)).map f=(l.take k).map f++[f x]:=(iF f h).symm
theorem Hz {p:Proj} {b:Dom} {i:Nat} {x:fE} (h:p.bB[i]? =some x):rW p b i=(EM b x).map (KN i)++(intervals p b).map (Nh i):=by simp only [rW,h]
theorem TI {α:Type} (f:Nat→List α) (n:Nat):(List.range (n+1)).flatMap f=(List.range n).flatMap f++f n:=by rw [List.range_succ,List.flatMap_append];simp
theorem HV (p:Proj) (b:Dom) (hp:p.fine) (hu:usable p b=true):Con 98 [.d p.av,.d b.av] (.d (.sl ((gD p b).map Rul.av))):=by
 refine con Tryz.func98 rfl rfl Tryz.call98 rfl fun hwf=>?_
 simp only [ARs.wf,AR.wf,AV.wf,AV.wfs,lm,lim] at hwf
 have hf:=(lT hu).1
 obtain⟨hpo,l1,l2,l3,_⟩:=bD hf
 have hna:=(eD hpo).LG
 obtain⟨_,hr3,hs2,hl12⟩:=oC hpo
 have hpl:=Ni hpo
 have hiv:=Bo hf
 (repeat' ((conv=>whnf);first|refine gA ?_|(refine gN ?_ ?_<;>intro h hw)|(refine gB ?_ ?_<;>intro h)|(refine gI ?_;intro x hx)|(refine gJ ?_;intro j x hj hx)|refine gP ?_|refine gV ?_|intro _))<;>try (conv=>whnf)
 refine aB [2,3,25] [2,3] [22] ?_
 (conv=>whnf)
 refine aA.go ((Nat)×(List Rul)) (fun⟨k,o⟩=>(k≤p.links.length)∧(o.length≤k)∧(o=(List.range k).map jo)) (fun⟨k,o⟩=>[(26,.data (i64 k)),(5,.own 22 0)]) (fun _=>[]) (fun⟨k,o⟩=>[(22,51,o.map Rul.av,0)]) (fun⟨k,o⟩=>p.links.length - k) ⟨0,[]⟩ ?_ ?_
 ·exact⟨Nat.zero_le _,by simp,rfl⟩
 rintro⟨k,o⟩ ⟨hk,ol,ho⟩
 by_cases hlt:k < p.links.length
 ·(repeat' ((conv=>whnf);first|refine gA ?_|(refine gN ?_ ?_<;>intro h hw)|(refine gB ?_ ?_<;>intro h)|(refine gI ?_;intro x hx)|(refine gJ ?_;intro j x hj hx)|refine gP ?_|refine gV ?_|intro _))<;>try (conv=>whnf)
  ·refine nw ⟨k+1,o++[jo k]⟩ ?_ ?_
   ·(repeat' ((conv=>whnf)<;>(first|exact trivial|exact rfl|with_reducible refine And.intro ?_ ?_)))<;>((conv=>whnf)<;>((simp [jo]<;>rfl)))
   exact⟨by omega,by simp;omega,by rw [ho,List.range_succ,List.map_append];rfl⟩
  ·exfalso;omega
 (repeat' ((conv=>whnf);first|(exfalso;omega)|refine gA ?_|(refine gN ?_ ?_<;>intro h hw)|(refine gB ?_ ?_<;>intro h)|(refine gI ?_;intro x hx)|(refine gJ ?_;intro j x hj hx)|refine gP ?_|refine gV ?_|intro _))<;>try (conv=>whnf)
 rw [show k=p.links.length by omega] at ho ol
 clear hlt hk
 refine aB [2,3,37] [2,3] [22] ?_
 (conv=>whnf)
 refine aA.go ((Nat)×(List Rul)) (fun⟨k2,o2⟩=>(k2≤p.acts.length)∧(o2.length≤12+k2)∧(o2=o++(List.range k2).map endRule)) (fun⟨k2,o2⟩=>[(38,.data (i64 k2)),(5,.own 22 0)]) (fun _=>[]) (fun⟨k2,o2⟩=>[(22,51,o2.map Rul.av,0)]) (fun⟨k2,o2⟩=>p.acts.length - k2) ⟨0,o⟩ ?_ ?_
 ·exact⟨Nat.zero_le _,by omega,by simp⟩
 rintro⟨k2,o2⟩ ⟨hk2,ol2,ho2⟩
 by_cases hlt:k2 < p.acts.length
 ·(repeat' ((conv=>whnf);first|refine gA ?_|(refine gN ?_ ?_<;>intro h hw)|(refine gB ?_ ?_<;>intro h)|(refine gI ?_;intro x hx)|(refine gJ ?_;intro j x hj hx)|refine gP ?_|refine gV ?_|intro _))<;>try (conv=>whnf)
  ·refine nw ⟨k2+1,o2++[endRule k2]⟩ ?_ ?_
   ·(repeat' ((conv=>whnf)<;>(first|exact trivial|exact rfl|with_reducible refine And.intro ?_ ?_)))<;>((conv=>whnf)<;>((simp [endRule]<;>rfl)))
   exact⟨by omega,by simp;omega,by rw [ho2,List.range_succ,List.map_append,List.append_assoc];rfl⟩
  ·exfalso;omega
 (repeat' ((conv=>whnf);first|(exfalso;omega)|refine gA ?_|(refine gN ?_ ?_<;>intro h hw)|(refine gB ?_ ?_<;>intro h)|(refine gI ?_;intro x hx)|(refine gJ ?_;intro j x hj hx)|refine gP ?_|refine gV ?_|intro _))<;>try (conv=>whnf)
 rw [show k2=p.acts.length by omega] at ho2 ol2
 clear hlt hk2
 refine aB [2,3,49] [2,3] [22] ?_
 (conv=>whnf)
 refine aA.go ((Nat)×(List Rul)) (fun⟨k3,o3⟩=>(k3≤p.aY.length)∧(o3.length≤18+k3)∧(o3=o2++(List.range k3).map gZ)) (fun⟨k3,o3⟩=>[(50,.data (i64 k3)),(5,.own 22 0)]) (fun _=>[]) (fun⟨k3,o3⟩=>[(22,51,o3.map Rul.av,0)]) (fun⟨k3,o3⟩=>p.aY.length - k3) ⟨0,o2⟩ ?_ ?_
 ·exact⟨Nat.zero_le _,by omega,by simp⟩
 rintro⟨k3,o3⟩ ⟨hk3,ol3,ho3⟩
 by_cases hlt:k3 < p.aY.length
 ·(repeat' ((conv=>whnf);first|refine gA ?_|(refine gN ?_ ?_<;>intro h hw)|(refine gB ?_ ?_<;>intro h)|(refine gI ?_;intro x hx)|(refine gJ ?_;intro j x hj hx)|refine gP ?_|refine gV ?_|intro _))<;>try (conv=>whnf)
  ·refine nw ⟨k3+1,o3++[gZ k3]⟩ ?_ ?_
   ·(repeat' ((conv=>whnf)<;>(first|exact trivial|exact rfl|with_reducible refine And.intro ?_ ?_)))<;>((conv=>whnf)<;>((simp [gZ]<;>rfl)))
   exact⟨by omega,by simp;omega,by rw [ho3,List.range_succ,List.map_append,List.append_assoc];rfl⟩
  ·exfalso;omega
 (repeat' ((conv=>whnf);first|(exfalso;omega)|refine gA ?_|(refine gN ?_ ?_<;>intro h hw)|(refine gB ?_ ?_<;>intro h)|(refine gI ?_;intro x hx)|(refine gJ ?_;intro j x hj hx)|refine gP ?_|refine gV ?_|refine gC (oz b.hi) ?_|refine gC (KM p b hp) ?_|intro _))<;>try (conv=>whnf)
 have h0:o3=mW p:=by rw [ho3,ho2,ho,show k3=p.aY.length by omega];rfl
 clear ho ho2 ho3 ol ol2 ol3 hlt hk3
 subst h0
 have hsh:=jf b.hi
 refine aB [2,9,10,67] [2] [22] ?_
 (conv=>whnf)
 refine aA.go ((Nat)×(List Rul)) (fun⟨i,o⟩=>(i≤p.bB.length)∧(o.length≤20+50*i)∧(o=mW p++(List.range i).flatMap (rW p b))) (fun⟨i,o⟩=>[(68,.data (i64 i)),(5,.own 22 0)]) (fun _=>[]) (fun⟨i,o⟩=>[(22,51,o.map Rul.av,0)]) (fun⟨i,o⟩=>p.bB.length - i) ⟨0,mW p⟩ ?_ ?_
 ·exact⟨Nat.zero_le _,by omega,by simp⟩
 rintro⟨i,o⟩ ⟨hi,ol,ho⟩
 by_cases hil:i < p.bB.length
 ·obtain⟨x,hx⟩:∃x,p.bB[i]? =some x:=⟨p.bB[i]'hil,by simp⟩
  have hst:=Nj hpo hx
  (repeat' ((conv=>whnf);first|with_reducible refine Idx.got hx rfl ?_|refine gA ?_|(refine gN ?_ ?_<;>intro h hw)|(refine gB ?_ ?_<;>intro h)|(refine gI ?_;intro x hx)|(refine gJ ?_;intro j x hj hx)|refine gP ?_|refine gV ?_|intro _))<;>try (conv=>whnf)
  rotate_left
  ·exfalso;omega
  refine aB [2,5,9,10,11,67,68,77,78] [2] [] ?_
  (conv=>whnf)
  refine aA.mk ((Nat)) (fun j=>(j≤x.steps.length)) (fun j=>[(79,.data (i64 j)),(12,.data (ints (setOf (b.hi++(x.steps.take j).map Step.at'))))]) (fun _=>[]) (fun _=>[]) (fun j=>x.steps.length - j) (0) ?_ ?_ ?_
  rotate_left
  ·(repeat' ((conv=>whnf)<;>(first|exact trivial|exact rfl|with_reducible refine And.intro ?_ ?_)))<;>((conv=>whnf)<;>(simp))
  rotate_left
  ·exact Nat.zero_le _
  rintro j hj
  have hsj:=jf (b.hi++(x.steps.take j).map Step.at')
  simp only [List.length_append,List.length_map,List.length_take] at hsj
  by_cases hjl:j < x.steps.length
  ·obtain⟨s,hs⟩:∃s,x.steps[j]? =some s:=⟨x.steps[j]'hjl,by simp⟩
   have hs1:(setOf (b.hi++(x.steps.take j).map Step.at')).length < lim:=by unfold lim;omega
   (repeat' ((conv=>whnf);first|with_reducible refine Idx.got hs rfl ?_|with_reducible refine Idx.got hx rfl ?_|refine gA ?_|(refine gN ?_ ?_<;>intro h hw)|(refine gB ?_ ?_<;>intro h)|(refine gI ?_;intro x hx)|(refine gJ ?_;intro j x hj hx)|refine gP ?_|refine gV ?_|refine gC (za _ s.at' hs1) ?_|intro _))<;>try (conv=>whnf)
   ·refine nw (j+1) ?_ ?_
    ·(repeat' ((conv=>whnf)<;>(first|exact trivial|exact rfl|with_reducible refine And.intro ?_ ?_)))<;>((conv=>whnf)<;>((rw [KI,RI Step.at' hs,List.append_assoc])))
    exact (by omega:j+1≤x.steps.length)
   ·exfalso;omega
  (repeat' ((conv=>whnf);first|(exfalso;omega)|refine gA ?_|(refine gN ?_ ?_<;>intro h hw)|(refine gB ?_ ?_<;>intro h)|(refine gI ?_;intro x hx)|(refine gJ ?_;intro j x hj hx)|refine gP ?_|refine gV ?_|intro _))<;>try (conv=>whnf)
  rw [List.take_of_length_le (by omega)] at hsj
  rw [List.take_of_length_le (by omega)]
  obtain⟨t,ht⟩:∃t,t=setOf (b.hi++x.steps.map Step.at'):=⟨_,rfl⟩
  rw [← ht] at hsj
  rw [← ht]
  refine aB [2,9,10,11,67,68,88,89] [2] [22] ?_
  (conv=>whnf)
  refine aA.go ((Nat)×(List Rul)) (fun⟨m,o3⟩=>(m≤t.length)∧(o3.length≤20+50*i+m)∧(o3=o++((t.take m).filter bC).map (KN i))) (fun⟨m,o3⟩=>[(90,.data (i64 m)),(5,.own 22 0)]) (fun _=>[]) (fun⟨m,o3⟩=>[(22,51,o3.map Rul.av,0)]) (fun⟨m,o3⟩=>t.length - m) ⟨0,o⟩ ?_ ?_
  ·exact⟨Nat.zero_le _,by omega,by simp⟩
  rintro⟨m,o3⟩ ⟨hm,ol3,ho3⟩
  by_cases hml:m < t.length
  ·obtain⟨v,hv⟩:∃v,t[m]? =some v:=⟨t[m]'hml,by simp⟩
   (repeat' ((conv=>whnf);first|with_reducible refine Idx.got hv rfl ?_|refine gA ?_|(refine gN ?_ ?_<;>intro h hw)|(refine gB ?_ ?_<;>intro h)|(refine gI ?_;intro x hx)|(refine gJ ?_;intro j x hj hx)|refine gP ?_|refine gV ?_|refine gC (dh v _ _) ?_|intro _))<;>try (conv=>whnf)
   ·refine nw ⟨m+1,o3++[KN i v]⟩ ?_ ?_
    ·(repeat' ((conv=>whnf)<;>(first|exact trivial|exact rfl|with_reducible refine And.intro ?_ ?_)))<;>((conv=>whnf)<;>((simp [KN];try rfl)))
    exact⟨by omega,by simp;omega,(lS ho3 hv).1 (by assumption)⟩
   ·refine nx ⟨m+1,o3⟩ ?_
    exact⟨by omega,by omega,(lS ho3 hv).2 (by assumption)⟩
   ·exfalso;omega
  (repeat' ((conv=>whnf);first|(exfalso;omega)|refine gA ?_|(refine gN ?_ ?_<;>intro h hw)|(refine gB ?_ ?_<;>intro h)|(refine gI ?_;intro x hx)|(refine gJ ?_;intro j x hj hx)|refine gP ?_|refine gV ?_|intro _))<;>try (conv=>whnf)
  have abT:o3=o++(EM b x).map (KN i):=by rw [ho3,List.take_of_length_le (by omega),EM,ht]
  have abW:o3.length≤20+50*i+14:=by omega
  clear ho3 ol3 hml hm
  refine aB [2,9,10,11,67,68,103,104] [2] [22] ?_
  (conv=>whnf)
  refine aA.go ((Nat)×(List Rul)) (fun⟨n,o4⟩=>(n≤(intervals p b).length)∧(o4.length≤34+50*i+n)∧(o4=o3++((intervals p b).take n).map (Nh i))) (fun⟨n,o4⟩=>[(105,.data (i64 n)),(5,.own 22 0)]) (fun _=>[]) (fun⟨n,o4⟩=>[(22,51,o4.map Rul.av,0)]) (fun⟨n,o4⟩=>(intervals p b).length - n) ⟨0,o3⟩ ?_ ?_
  ·exact⟨Nat.zero_le _,by omega,by simp⟩
  rintro⟨n,o4⟩ ⟨hn,ol4,ho4⟩
  by_cases hnl:n < (intervals p b).length
  ·obtain⟨q2,hq2⟩:∃q2,(intervals p b)[n]? =some q2:=⟨(intervals p b)[n]'hnl,by simp⟩
   obtain⟨u,v,rfl,_⟩:=Bp (List.mem_of_getElem? hq2)
   (repeat' ((conv=>whnf);first|with_reducible refine Idx.got hq2 rfl ?_|with_reducible refine Idx.got (l:=[u,v]) (k:=0) rfl rfl ?_|with_reducible refine Idx.got (l:=[u,v]) (k:=1) rfl rfl ?_|refine gA ?_|(refine gN ?_ ?_<;>intro h hw)|(refine gB ?_ ?_<;>intro h)|(refine gI ?_;intro x hx)|(refine gJ ?_;intro j x hj hx)|refine gP ?_|refine gV ?_|intro _))<;>try (conv=>whnf)
   ·refine nw ⟨n+1,o4++[Nh i [u,v]]⟩ ?_ ?_
    ·(repeat' ((conv=>whnf)<;>(first|exact trivial|exact rfl|with_reducible refine And.intro ?_ ?_)))<;>((conv=>whnf)<;>((simp [Nh];try rfl)))
    exact⟨by omega,by simp;omega,by rw [ho4,RI _ hq2,List.append_assoc]⟩
   all_goals (first|(exfalso;omega)|exact trivial)
  ·(repeat' ((conv=>whnf);first|(exfalso;omega)|refine gA ?_|(refine gN ?_ ?_<;>intro h hw)|(refine gB ?_ ?_<;>intro h)|(refine gI ?_;intro x hx)|(refine gJ ?_;intro j x hj hx)|refine gP ?_|refine gV ?_|intro _))<;>try (conv=>whnf)
   refine nx ⟨i+1,o4⟩ ?_
   refine⟨by omega,by omega,?_⟩
   rw [ho4,abT,ho,List.take_of_length_le (by omega),TI,Hz hx];simp
 (repeat' ((conv=>whnf);first|(exfalso;omega)|refine gA ?_|(refine gN ?_ ?_<;>intro h hw)|(refine gB ?_ ?_<;>intro h)|(refine gI ?_;intro x hx)|(refine gJ ?_;intro j x hj hx)|refine gP ?_|refine gV ?_|intro _))<;>try (conv=>whnf)
 rw [show i=p.bB.length by omega] at ho ol
 clear hil hi
 refine aB [2,124] [2] [22] ?_
 (conv=>whnf)
 refine aA.go ((Nat)×(List Rul)) (fun⟨r5,o5⟩=>(r5≤p.bB.length)∧(o5.length≤201+36*r5)∧(o5=o++(List.range r5).flatMap (fun r=>(List.range p.acts.length).flatMap (fO p r)))) (fun⟨r5,o5⟩=>[(125,.data (i64 r5)),(5,.own 22 0)]) (fun _=>[]) (fun⟨r5,o5⟩=>[(22,51,o5.map Rul.av,0)]) (fun⟨r5,o5⟩=>p.bB.length - r5) ⟨0,o⟩ ?_ ?_
 ·exact⟨by omega,by omega,by simp⟩
 rintro⟨r5,o5⟩ ⟨hk5,ol5,ho5⟩
 by_cases hlt:r5 < p.bB.length
 ·(repeat' ((conv=>whnf);first|(exfalso;omega)|refine gA ?_|(refine gN ?_ ?_<;>intro h hw)|(refine gB ?_ ?_<;>intro h)|(refine gI ?_;intro x hx)|(refine gJ ?_;intro j x hj hx)|refine gP ?_|refine gV ?_|intro _))<;>try (conv=>whnf)
  refine aB [2,19,124,125,130] [2] [22] ?_
  (conv=>whnf)
  refine aA.go ((Nat)×(List Rul)) (fun⟨a,o6⟩=>(a≤p.acts.length)∧(o6.length≤201+36*r5+6*a)∧(o6=o5++(List.range a).flatMap (fO p r5))) (fun⟨a,o6⟩=>[(131,.data (i64 a)),(5,.own 22 0)]) (fun _=>[]) (fun⟨a,o6⟩=>[(22,51,o6.map Rul.av,0)]) (fun⟨a,o6⟩=>p.acts.length - a) ⟨0,o5⟩ ?_ ?_
  ·exact⟨by omega,by omega,by simp⟩
  rintro⟨a,o6⟩ ⟨hk6,ol6,ho6⟩
  by_cases abS:a < p.acts.length
  ·(repeat' ((conv=>whnf);first|(exfalso;omega)|refine gA ?_|(refine gN ?_ ?_<;>intro h hw)|(refine gB ?_ ?_<;>intro h)|(refine gI ?_;intro x hx)|(refine gJ ?_;intro j x hj hx)|refine gP ?_|refine gV ?_|intro _))<;>try (conv=>whnf)
   refine aB [2,19,20,124,125,130,131] [2] [22] ?_
   (conv=>whnf)
   refine aA.go ((Nat)×(Int)×(List Rul)) (fun⟨j,c,o7⟩=>(c=a+1+j)∧(a+1+j≤p.acts.length)∧(fA p r5=false→j=0)∧(o7.length≤o6.length+j)∧(o7=o6++(List.range j).map (fun i=>jN r5 a (a+1+i)))) (fun⟨j,c,o7⟩=>[(21,.data (i64 c)),(5,.own 22 0)]) (fun _=>[]) (fun⟨j,c,o7⟩=>[(22,51,o7.map Rul.av,0)]) (fun⟨j,c,o7⟩=>p.acts.length - j) ⟨0,(a:Int)+1,o6⟩ ?_ ?_
   ·exact⟨by omega,by omega,fun _=>rfl,by omega,by simp⟩
   rintro⟨j,c,o7⟩ ⟨hc,hj,hz,ol7,ho7⟩
   cases hm:fA p r5 with
   |true=>
    (repeat' ((conv=>whnf);first|refine gA ?_|(refine gN ?_ ?_<;>intro h hw)|(refine gB ?_ ?_<;>intro h)|(refine gI ?_;intro x hx)|(refine gJ ?_;intro j x hj hx)|refine gP ?_|refine gV ?_|refine gC (rM p _) ?_|intro _))<;>try (conv=>whnf)
    ·refine nw ⟨j+1,c+1,o7++[jN r5 a (a+1+j)]⟩ ?_ ?_
     ·(repeat' ((conv=>whnf)<;>(first|exact trivial|exact rfl|with_reducible refine And.intro ?_ ?_)))<;>((conv=>whnf)<;>((subst hc;simp [jN,Int.natCast_add];try rfl)))
     exact⟨by omega,by omega,(fun e=>by cases e),(by simp;omega),by rw [ho7,List.range_succ,List.map_append,List.append_assoc];rfl⟩
    ·refine nx ⟨a+1,o7⟩ ?_
     refine⟨by omega,by omega,?_⟩
     rw [ho7,ho6,List.range_succ,List.flatMap_append,List.append_assoc,show j=p.acts.length - (a+1) by omega]
     simp [fO,hm]
   |false=>
    have hj0:=hz hm
    subst hj0
    (repeat' ((conv=>whnf);first|refine gA ?_|(refine gN ?_ ?_<;>intro h hw)|(refine gB ?_ ?_<;>intro h)|(refine gI ?_;intro x hx)|(refine gJ ?_;intro j x hj hx)|refine gP ?_|refine gV ?_|refine gC (rM p _) ?_|intro _))<;>try (conv=>whnf)
    all_goals
     refine nx ⟨a+1,o7⟩ ?_
     refine⟨by omega,by omega,?_⟩
     rw [ho7,ho6,List.range_succ,List.flatMap_append,List.append_assoc]
     simp [fO,hm]
  ·(repeat' ((conv=>whnf);first|(exfalso;omega)|refine gA ?_|(refine gN ?_ ?_<;>intro h hw)|(refine gB ?_ ?_<;>intro h)|(refine gI ?_;intro x hx)|(refine gJ ?_;intro j x hj hx)|refine gP ?_|refine gV ?_|intro _))<;>try (conv=>whnf)
   refine nx ⟨r5+1,o6⟩ ?_
   refine⟨by omega,by omega,?_⟩
   rw [ho6,ho5,List.range_succ,List.flatMap_append,List.append_assoc,show a=p.acts.length by omega]
   simp
 (repeat' ((conv=>whnf);first|(exfalso;omega)|refine gA ?_|(refine gN ?_ ?_<;>intro h hw)|(refine gB ?_ ?_<;>intro h)|(refine gI ?_;intro x hx)|(refine gJ ?_;intro j x hj hx)|refine gP ?_|refine gV ?_|intro _))<;>try (conv=>whnf)
 refine⟨?_,rfl,trivial⟩
 rw [gD,ho5,ho,show r5=p.bB.length by omega];rfl
end Go.Proofs.YtefgamefajmdkaaGreat.Abs
