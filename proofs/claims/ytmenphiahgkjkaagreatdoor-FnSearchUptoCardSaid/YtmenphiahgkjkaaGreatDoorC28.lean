/- Contracts: intervals; the rules that may refute. -/
import Derived.Test.YtmenphiahgkjkaaGreatDoorC27
import Derived.Test.YtmenphiahgkjkaaGreatDoorC20a
set_option linter.all false
set_option maxRecDepth 20000
set_option maxHeartbeats 0
namespace Go.Proofs.YtmenphiahgkjkaaGreatDoor.Abs
open Go.Proofs
def QJ:Bool→Int→List Int→Int
 |_,n,[]=>n
 |b,n,x::r=>QJ false (if b=true∨x > n then x else n) r
def GK (a:aC) (ms:List Int):Int:=QJ true 0 ((chosen a ms).map Mode.dur)
theorem LD {c:Int}:∀(l:List Int) (b:Bool) (n:Int),(0≤n∧n≤c)→(∀x∈l,0≤x∧x≤c)→0≤QJ b n l∧QJ b n l≤c
 |[],_,n,h,_=>h
 |x::r,b,n,h,h'=>by
  rw [QJ]
  refine LD r false _ ?_ fun y hy=>h' y (by simp [hy])
  split
  ·exact h' x (by simp)
  ·exact h
theorem QK {a:aC} {r s:Int} (h:dD a r s=true) (ms:List Int):0≤GK a ms∧GK a ms≤12:=by
 refine LD _ _ _ (by omega) fun x hx=>?_
 obtain⟨m,hm,rfl⟩:=List.mem_map.1 hx
 have:=(kE h (xJ hm)).1
 omega
theorem GL (a:aC) (ms:List Int):Con 183 [.d a.av,.d (ints ms)] (.d (i64 (GK a ms))):=by
 refine con Tryz.func183 rfl rfl Tryz.call183 rfl fun hwf=>?_
 simp only [ARs.wf,AR.wf,AV.wf,AV.wfs,lm,lim] at hwf
 have hl:=KQ a ms
 (repeat' ((conv=>whnf);first|refine gA ?_|(refine gB ?_ ?_<;>intro h)|(refine gI ?_;intro x hx)|(refine gJ ?_;intro j x hj hx)|refine gV ?_|refine gC (uK a ms) ?_|intro _))<;>try (conv=>whnf)
 refine aB [10,11] [] [] ?_
 (conv=>whnf)
 refine aA.go ((Nat)×(Int)) (fun⟨k,n⟩=>(k≤(chosen a ms).length)∧(QJ (decide ((k:Int)=0)) n (((chosen a ms).drop k).map Mode.dur)=GK a ms)) (fun⟨k,n⟩=>[(12,.data (i64 k)),(5,.data (i64 n))]) (fun _=>[]) (fun _=>[]) (fun⟨k,n⟩=>(chosen a ms).length - k) ⟨0,0⟩ ?_ ?_
 ·exact⟨by omega,rfl⟩
 rintro⟨k,n⟩ ⟨hk,hi⟩
 (repeat' ((conv=>whnf);first|refine gA ?_|(refine gB ?_ ?_<;>intro h)|(refine gI ?_;intro x hx)|(refine gJ ?_;intro j x hj hx)|refine gV ?_|intro _))<;>try (conv=>whnf)
 ·refine nx ⟨k+1,x.dur⟩ ?_
  rw [aF hx,List.map_cons,QJ,if_pos (.inl (by simp [h]))] at hi
  exact⟨by omega,by rw [decide_eq_false (show ¬((k+1:Nat):Int)=0 by omega)];exact hi⟩
 ·refine nx ⟨k+1,x.dur⟩ ?_
  rw [aF hx,List.map_cons,QJ,if_pos (.inr h)] at hi
  exact⟨by omega,by rw [decide_eq_false (show ¬((k+1:Nat):Int)=0 by omega)];exact hi⟩
 ·refine nx ⟨k+1,n⟩ ?_
  rw [aF hx,List.map_cons,QJ,if_neg (by rw [decide_eq_true_eq];omega)] at hi
  exact⟨by omega,by rw [decide_eq_false (show ¬((k+1:Nat):Int)=0 by omega)];exact hi⟩
 ·refine⟨?_,rfl,trivial⟩
  rw [← hi,bC (by assumption)];rfl
def QL (p:Proj) (b:Dom) (i:Nat):Int:=b.hi.getD i 0+GK (aZ p i) (b.modes.getD i [])
def oN (p:Proj) (b:Dom) (k:Nat):List Int:=(List.range k).map (QL p b)
abbrev Zf (p:Proj) (b:Dom):List Int:=setOf (oN p b p.acts.length)
def TI (x y:Int):Bool:=eY x&&eY y&&decide (x < y)
def WS (p:Proj) (b:Dom) (x:Int):List (List Int):=((Zf p b).filter (TI x)).map fun y=>[x,y]
def intervals (p:Proj) (b:Dom):List (List Int):=if usable p b=true then (setOf b.lo).flatMap (WS p b) else []
theorem XI {p:Proj} {b:Dom} {k:Nat} {a:aC} {x y:Int} {m:List Int} (g:fV p b k a x y m):QL p b k=y+GK a m:=by
 simp [QL,aZ,List.getD_eq_getElem?_getD,g.act,g.hi,g.modes]
theorem Vx (p:Proj) (b:Dom) (k:Nat):oN p b (k+1)=oN p b k++[QL p b k]:=by simp [oN,List.range_succ]
theorem OA (p:Proj) (b:Dom) (k:Nat):(oN p b k).length=k:=by simp [oN]
theorem XJ {α β:Type} {f:α→List β} {l:List α} {k:Nat} {x:α} {o:List β} (ho:o=(l.take k).flatMap f) (h:l[k]? =some x):o++f x=(l.take (k+1)).flatMap f:=by
 obtain⟨hk,rfl⟩:=List.getElem?_eq_some_iff.1 h
 rw [ho,List.take_succ_eq_append_getElem hk,List.flatMap_append];simp
theorem mG {α β:Type} {f:α→Bool} {g:α→β} {l:List α} {k:Nat} {x:α} {q o:List β} (ho:o=q++((l.take k).filter f).map g) (h:l[k]? =some x):
  (f x=true→o++[g x]=q++((l.take (k+1)).filter f).map g)∧(f x=false→o=q++((l.take (k+1)).filter f).map g):=by
 obtain⟨hk,rfl⟩:=List.getElem?_eq_some_iff.1 h
 rw [List.take_succ_eq_append_getElem hk,List.filter_append]
 exact⟨fun hf=>by rw [ho];simp [hf],fun hf=>by rw [ho];simp [hf]⟩
theorem mH {p:Proj} {b:Dom} (h:usable p b=true):ak p b=true∧aP b=false:=by simpa [usable] using h
theorem LG (p:Proj) (b:Dom) (hp:p.fine):Con 151 [.d p.av,.d b.av] (.d (.sl ((intervals p b).map ints))):=by
 refine con Tryz.func151 rfl rfl Tryz.call151 rfl fun hwf=>?_
 simp only [ARs.wf,AR.wf,AV.wf,AV.wfs,lm,lim] at hwf
 cases hu:usable p b with
 |false=>
  (repeat' ((conv=>whnf);first|refine gA ?_|(refine gN ?_ ?_<;>intro h hw)|(refine gB ?_ ?_<;>intro h)|(refine gI ?_;intro x hx)|(refine gJ ?_;intro j x hj hx)|refine gP ?_|refine gV ?_|refine gC (iO p b hp) ?_|intro _))<;>try (conv=>whnf)
  refine⟨?_,rfl,trivial⟩;rw [intervals,if_neg (by rw [hu];exact Bool.false_ne_true)];rfl
 |true=>
  rw [intervals,if_pos hu]
  have hf:=(mH hu).1
  obtain⟨hpo,l1,l2,l3,_⟩:=bZ hf
  have hna:=(fG hpo).KS
  have hel:=OA p b
  have hsl:=jV b.lo
  have hse:(setOf (oN p b p.acts.length)).length≤p.acts.length:=by have:=jV (oN p b p.acts.length);rw [hel] at this;exact this
  (repeat' ((conv=>whnf);first|refine gA ?_|(refine gN ?_ ?_<;>intro h hw)|(refine gB ?_ ?_<;>intro h)|(refine gI ?_;intro x hx)|(refine gJ ?_;intro j x hj hx)|refine gP ?_|refine gV ?_|refine gC (iO p b hp) ?_|intro _))<;>try (conv=>whnf)
  refine aB [3,6,20,21] [3] [17] ?_
  (conv=>whnf)
  refine aA.go ((Nat)) (fun k=>(k≤p.acts.length)) (fun k=>[(22,.data (i64 k)),(5,.own 17 0)]) (fun _=>[]) (fun k=>[(17,3,(oN p b k).map i64,0)]) (fun k=>p.acts.length - k) (0) ?_ ?_
  ·exact Nat.zero_le _
  rintro k hk
  have hek:=hel k
  by_cases hlt:k < p.acts.length
  ·obtain⟨a,lo,up,m,g⟩:=dL hf hlt
   have h1:=g.hib
   have h2:=QK g.aok m
   (repeat' ((conv=>whnf);first|with_reducible refine Idx.got g.act rfl ?_|with_reducible refine Idx.got g.hi rfl ?_|with_reducible refine Idx.got g.modes rfl ?_|refine gA ?_|(refine gN ?_ ?_<;>intro h hw)|(refine gB ?_ ?_<;>intro h)|(refine gI ?_;intro x hx)|(refine gJ ?_;intro j x hj hx)|refine gP ?_|refine gV ?_|refine gC (GL a m) ?_|intro _))<;>try (conv=>whnf)
   ·refine nw (k+1) ?_ ?_
    ·(repeat' ((conv=>whnf)<;>(first|exact trivial|exact rfl|with_reducible refine And.intro ?_ ?_)))<;>((conv=>whnf)<;>((rw [Vx,XI g];simp)))
    exact (by omega:k+1≤p.acts.length)
   ·exfalso;omega
  (repeat' ((conv=>whnf);first|(exfalso;omega)|refine gA ?_|(refine gN ?_ ?_<;>intro h hw)|(refine gB ?_ ?_<;>intro h)|(refine gI ?_;intro x hx)|(refine gJ ?_;intro j x hj hx)|refine gP ?_|refine gV ?_|refine gC (pQ b.lo) ?_|intro _))<;>try (conv=>whnf)
  rw [show k=p.acts.length by omega]
  refine aB [46,47] [] [18] ?_
  (conv=>whnf)
  refine aA.go ((Nat)×(List (List Int))) (fun⟨i,o⟩=>(i≤(setOf b.lo).length)∧(o.length≤6*i)∧(o=((setOf b.lo).take i).flatMap (WS p b))) (fun⟨i,o⟩=>[(48,.data (i64 i)),(5,.data (ints (oN p b p.acts.length))),(6,.own 18 0)]) (fun _=>[]) (fun⟨i,o⟩=>[(18,26,o.map ints,0)]) (fun⟨i,o⟩=>(setOf b.lo).length - i) ⟨0,[]⟩ ?_ ?_
  ·exact⟨Nat.zero_le _,by simp,by simp⟩
  rintro⟨i,o⟩ ⟨hi,ol,ho⟩
  by_cases hil:i < (setOf b.lo).length
  rotate_left
  ·(repeat' ((conv=>whnf);first|(exfalso;omega)|refine gA ?_|(refine gN ?_ ?_<;>intro h hw)|(refine gB ?_ ?_<;>intro h)|(refine gI ?_;intro x hx)|(refine gJ ?_;intro j x hj hx)|refine gP ?_|refine gV ?_|intro _))<;>try (conv=>whnf)
   refine⟨?_,rfl,trivial⟩
   rw [ho,List.take_of_length_le (by omega)]
  obtain⟨x0,hx0⟩:∃x0,(setOf b.lo)[i]? =some x0:=⟨(setOf b.lo)[i]'hil,by simp⟩
  (repeat' ((conv=>whnf);first|with_reducible refine Idx.got hx0 rfl ?_|refine gA ?_|(refine gN ?_ ?_<;>intro h hw)|(refine gB ?_ ?_<;>intro h)|(refine gI ?_;intro x hx)|(refine gJ ?_;intro j x hj hx)|refine gP ?_|refine gV ?_|refine gC (pQ (oN p b p.acts.length)) ?_|intro _))<;>try (conv=>whnf)
  rotate_left
  ·exact trivial
  refine aB [5,10,46,47,48,53,54] [] [18] ?_
  (conv=>whnf)
  refine aA.go ((Nat)×(List (List Int))) (fun⟨j,o2⟩=>(j≤(setOf (oN p b p.acts.length)).length)∧(o2.length≤6*i+j)∧(o2=o++(((setOf (oN p b p.acts.length)).take j).filter (TI x0)).map (fun y=>[x0,y]))) (fun⟨j,o2⟩=>[(55,.data (i64 j)),(6,.own 18 0)]) (fun _=>[]) (fun⟨j,o2⟩=>[(18,26,o2.map ints,0)]) (fun⟨j,o2⟩=>(setOf (oN p b p.acts.length)).length - j) ⟨0,o⟩ ?_ ?_
  ·exact⟨Nat.zero_le _,by omega,by simp⟩
  rintro⟨j,o2⟩ ⟨hj,ol2,ho2⟩
  by_cases hjl:j < (setOf (oN p b p.acts.length)).length
  ·obtain⟨y0,hy0⟩:∃y0,(setOf (oN p b p.acts.length))[j]? =some y0:=⟨(setOf (oN p b p.acts.length))[j]'hjl,by simp⟩
   (repeat' ((conv=>whnf);first|with_reducible refine Idx.got hy0 rfl ?_|refine gA ?_|(refine gN ?_ ?_<;>intro h hw)|(refine gB ?_ ?_<;>intro h)|(refine gI ?_;intro x hx)|(refine gJ ?_;intro j x hj hx)|refine gP ?_|refine gV ?_|refine gC (jZ _) ?_|intro _))<;>try (conv=>whnf)
   ·refine nw ⟨j+1,o2++[[x0,y0]]⟩ ?_ ?_
    ·(repeat' ((conv=>whnf)<;>(first|exact trivial|exact rfl|with_reducible refine And.intro ?_ ?_)))<;>((conv=>whnf)<;>(simp))
    exact⟨by omega,by simp;omega,(mG ho2 hy0).1 (by simp [TI, *])⟩
   ·refine nx ⟨j+1,o2⟩ ?_
    exact⟨by omega,by omega,(mG ho2 hy0).2 (by simp [TI, *])⟩
   ·refine nx ⟨j+1,o2⟩ ?_
    exact⟨by omega,by omega,(mG ho2 hy0).2 (by simp [TI, *])⟩
   ·refine nx ⟨j+1,o2⟩ ?_
    exact⟨by omega,by omega,(mG ho2 hy0).2 (by simp [TI, *])⟩
   ·exfalso;omega
  ·(repeat' ((conv=>whnf);first|(exfalso;omega)|refine gA ?_|(refine gN ?_ ?_<;>intro h hw)|(refine gB ?_ ?_<;>intro h)|(refine gI ?_;intro x hx)|(refine gJ ?_;intro j x hj hx)|refine gP ?_|refine gV ?_|intro _))<;>try (conv=>whnf)
   refine nx ⟨i+1,o2⟩ ?_
   refine⟨by omega,by omega,?_⟩
   rw [ho2,List.take_of_length_le (by omega)]
   exact XJ ho hx0
open Go.Proofs
def kF (p:Proj):List Rul:=(List.range p.links.length).map kX++(List.range p.acts.length).map endRule++(List.range p.aW.length).map jU
def pU (p:Proj):List Rul:=(List.range p.bB.length).flatMap fun r=>(List.range p.acts.length).flatMap (fU p r)
def EX (b:Dom) (x:dR):List Int:=(setOf (b.hi++x.steps.map Step.at')).filter eY
def LH (i:Nat) (t:Int):Rul:=⟨3,i,t,0⟩
def OB (i:Nat) (q:List Int):Rul:=⟨4,i,q.getD 0 0,q.getD 1 0⟩
def tO (p:Proj) (b:Dom) (i:Nat):List Rul:=
 match p.bB[i]? with
 |some x=>(EX b x).map (LH i)++(intervals p b).map (OB i)
 |none=>[]
def EY (p:Proj) (b:Dom):List Rul:=kF p++(List.range p.bB.length).flatMap (tO p b)++pU p
def aX (p:Proj) (b:Dom):List Rul:=if usable p b=true then EY p b else []
def jB (r:Rul):Bool:=decide (r.kind=1)||decide (r.kind=2)||decide (r.kind=6)
def lu (r:Rul):Bool:=decide (r.kind=5)
theorem LJ {α β:Type} {f:β→Bool} {g:α→β} {l:List α} (h:∀x,f (g x)=true):(l.map g).filter f=l.map g:=List.filter_eq_self.2 fun y hy=>by
 obtain⟨x,_,rfl⟩:=List.mem_map.1 hy;exact h x
theorem GN {α β:Type} {f:β→Bool} {g:α→β} {l:List α} (h:∀x,f (g x)=false):(l.map g).filter f= []:=List.filter_eq_nil_iff.2 fun y hy=>by
 obtain⟨x,_,rfl⟩:=List.mem_map.1 hy;rw [h x];exact Bool.false_ne_true
theorem QM {p:Proj} {r b:Nat} {y:Rul} (h:y∈fU p r b):y.kind=5:=by
 unfold fU at h
 split at h
 ·obtain⟨j,_,rfl⟩:=List.mem_map.1 h;rfl
 ·simp at h
theorem LK {n:Nat} {y:Rul} (h:y∈(List.range n).flatMap oI):y.kind=3:=by
 obtain⟨r,_,h⟩:=List.mem_flatMap.1 h
 obtain⟨j,_,rfl⟩:=List.mem_map.1 h;rfl
theorem LM {p:Proj} {y:Rul} (h:y∈pU p):y.kind=5:=by
 obtain⟨r,_,h⟩:=List.mem_flatMap.1 h
 obtain⟨b,_,h⟩:=List.mem_flatMap.1 h
 exact QM h
theorem TJ (p:Proj):(bI p).filter jB=kF p:=by
 have h1:((List.range p.bB.length).flatMap oI).filter jB= []:=List.filter_eq_nil_iff.2 fun y hy=>by rw [jB,LK hy];decide
 have h2:((List.range p.bB.length).flatMap fun r=>(List.range p.acts.length).flatMap (fU p r)).filter jB= []:=List.filter_eq_nil_iff.2 fun y hy=>by rw [jB,LM hy];decide
 simp only [bI,List.filter_append,h1,h2,kF]
 rw [LJ (fun _=>rfl),LJ (fun _=>rfl),LJ (fun _=>rfl)]
 simp
theorem Vy (p:Proj):(bI p).filter lu=pU p:=by
 have h1:((List.range p.bB.length).flatMap oI).filter lu= []:=List.filter_eq_nil_iff.2 fun y hy=>by rw [lu,LK hy];decide
 have h2:((List.range p.bB.length).flatMap fun r=>(List.range p.acts.length).flatMap (fU p r)).filter lu=pU p:=List.filter_eq_self.2 fun y hy=>by rw [lu,LM hy];rfl
 simp only [bI,List.filter_append,h1,h2]
 rw [GN (fun _=>rfl),GN (fun _=>rfl),GN (fun _=>rfl)]
 simp
theorem nV {α β:Type} {f:α→List β} {c:Nat}:∀{l:List α},(∀x∈l,(f x).length≤c)→(l.flatMap f).length≤c*l.length
 |[],_=>by simp
 |x::l,h=>by
  have h1:=h x (by simp)
  have h2:=nV (l:=l) fun y hy=>h y (by simp [hy])
  simp only [List.flatMap_cons,List.length_append,List.length_cons,Nat.mul_add];omega
theorem OC {p:Proj} (ho:aL p=true):(kF p).length≤20:=by
 have:=nM ho
 simp only [kF,List.length_append,List.length_map,List.length_range];omega
theorem TL (p:Proj) (r b:Nat):(fU p r b).length≤p.acts.length:=by
 unfold fU;split
 ·simp
 ·simp
theorem LP {p:Proj} (ho:aL p=true):(pU p).length≤108:=by
 have hs:=nM ho
 have h2:∀r,((List.range p.acts.length).flatMap (fU p r)).length≤36:=fun r=>by
  have:=nV (f:=fU p r) (c:=6) (l:=List.range p.acts.length) fun b _=>Nat.le_trans (TL p r b) hs.1.2
  simp only [List.length_range] at this;omega
 have:=nV (f:=fun r=>(List.range p.acts.length).flatMap (fU p r)) (c:=36) (l:=List.range p.bB.length) fun r _=>h2 r
 simp only [List.length_range] at this
 show ((List.range p.bB.length).flatMap fun r=>(List.range p.acts.length).flatMap (fU p r)).length≤108
 omega
theorem Cb {p:Proj} {b:Dom} (hf:ak p b=true):(intervals p b).length≤36:=by
 unfold intervals
 split
 ·obtain⟨hpo,l1,l2,l3,_⟩:=bZ hf
  have hna:=(fG hpo).KS
  have h1:=jV b.lo
  have h2:=jV (oN p b p.acts.length)
  rw [OA] at h2
  have h3:=nV (f:=WS p b) (c:=6) (l:=setOf b.lo) fun x _=>by
   have:=List.length_filter_le (TI x) (setOf (oN p b p.acts.length))
   simp only [WS,Zf,List.length_map];omega
  omega
 ·simp
theorem Cc {p:Proj} {b:Dom} {q:List Int} (h:q∈intervals p b):∃x y,q= [x,y]∧eY x=true∧eY y=true∧x < y:=by
 unfold intervals at h
 split at h
 ·obtain⟨x,_,h⟩:=List.mem_flatMap.1 h
  obtain⟨y,hy,rfl⟩:=List.mem_map.1 h
  have:=(List.mem_filter.1 hy).2
  simp only [TI,Bool.and_eq_true,decide_eq_true_eq] at this
  exact⟨x,y,rfl,this.1.1,this.1.2,this.2⟩
 ·simp at h
theorem OD {p:Proj} (ho:aL p=true) {k:Nat} {x:dR} (h:p.bB[k]? =some x):x.steps.length≤8:=by
 have:=(fG ho).res k x h
 simp only [qC,Bool.and_eq_true,lV,within_iff] at this
 omega
theorem XK {p:Proj} (ho:aL p=true):(bI p).length≤400:=by
 have hs:=nM ho
 have h1:=nV (f:=oI) (c:=61) (l:=List.range p.bB.length) fun r _=>by simp [oI]
 have h2:((List.range p.bB.length).flatMap fun r=>(List.range p.acts.length).flatMap (fU p r)).length≤108:=LP ho
 simp only [List.length_range] at h1
 simp only [bI,List.length_append,List.length_map,List.length_range];omega
theorem Io {α:Type} (f:α→Bool) {l:List α} {k:Nat} {x:α} (h:l[k]? =some x):(l.take (k+1)).filter f=(l.take k).filter f++if f x=true then [x] else []:=by
 obtain⟨hk,rfl⟩:=List.getElem?_eq_some_iff.1 h
 rw [List.take_succ_eq_append_getElem hk,List.filter_append]
 congr 1
 simp [List.filter_cons]
theorem XL {t u:List Int} (x:Int) (h:setOf t=setOf u):setOf (t++[x])=setOf (u++[x]):=by rw [← LA,h,LA]
theorem oO {α β:Type} (f:α→β) {l:List α} {k:Nat} {x:α} (h:l[k]? =some x):(l.take (k+1)).map f=(l.take k).map f++[f x]:=(kN f h).symm
theorem Ip {p:Proj} {b:Dom} {i:Nat} {x:dR} (h:p.bB[i]? =some x):tO p b i=(EX b x).map (LH i)++(intervals p b).map (OB i):=by simp only [tO,h]
theorem Vz {α:Type} (f:Nat→List α) (n:Nat):(List.range (n+1)).flatMap f=(List.range n).flatMap f++f n:=by rw [List.range_succ,List.flatMap_append];simp
theorem mP (p:Proj) (b:Dom) (hp:p.fine):Con 121 [.d p.av,.d b.av] (.d (.sl ((aX p b).map Rul.av))):=by
 refine con Tryz.func121 rfl rfl Tryz.call121 rfl fun hwf=>?_
 simp only [ARs.wf,AR.wf,AV.wf,AV.wfs,lm,lim] at hwf
 cases hu:usable p b with
 |false=>
  (repeat' ((conv=>whnf);first|refine gA ?_|(refine gN ?_ ?_<;>intro h hw)|(refine gB ?_ ?_<;>intro h)|(refine gI ?_;intro x hx)|(refine gJ ?_;intro j x hj hx)|refine gP ?_|refine gV ?_|refine gC (iO p b hp) ?_|intro _))<;>try (conv=>whnf)
  refine⟨?_,rfl,trivial⟩;rw [aX,if_neg (by rw [hu];exact Bool.false_ne_true)];rfl
 |true=>
  rw [aX,if_pos hu]
  have hf:=(mH hu).1
  obtain⟨hpo,l1,l2,l3,_⟩:=bZ hf
  have hna:=(fG hpo).KS
  obtain⟨_,hr3,_,_⟩:=nM hpo
  have hpl:=OC hpo
  have hpp:=LP hpo
  have hiv:=Cb hf
  (repeat' ((conv=>whnf);first|refine gA ?_|(refine gN ?_ ?_<;>intro h hw)|(refine gB ?_ ?_<;>intro h)|(refine gI ?_;intro x hx)|(refine gJ ?_;intro j x hj hx)|refine gP ?_|refine gV ?_|refine gC (iO p b hp) ?_|refine gC (LC p hpo) ?_|intro _))<;>try (conv=>whnf)
  refine aB [2,3,25,26] [2,3] [22,23] ?_
  (conv=>whnf)
  refine aA.go ((Nat)×(List Rul)×(List Rul)) (fun⟨k,o,q⟩=>(k≤(bI p).length)∧(o.length≤k)∧(q.length≤k)∧(o=((bI p).take k).filter jB)∧(q=((bI p).take k).filter lu)) (fun⟨k,o,q⟩=>[(27,.data (i64 k)),(5,.own 22 0),(6,.own 23 0)]) (fun _=>[]) (fun⟨k,o,q⟩=>[(22,73,o.map Rul.av,0),(23,73,q.map Rul.av,0)]) (fun⟨k,o,q⟩=>(bI p).length - k) ⟨0,[],[]⟩ ?_ ?_
  ·exact⟨Nat.zero_le _,Nat.le_refl _,Nat.le_refl _,rfl,rfl⟩
  rintro⟨k,o,q⟩ ⟨hk,ol,ql,ho,hq⟩
  by_cases hlt:k < (bI p).length
  ·obtain⟨r,hr⟩:∃r,(bI p)[k]? =some r:=⟨(bI p)[k]'hlt,by simp⟩
   have hrl:=XK hpo
   have hsp:=Io jB hr
   have hsq:=Io lu hr
   (repeat' ((conv=>whnf);first|with_reducible refine Idx.got hr rfl ?_|refine gA ?_|(refine gN ?_ ?_<;>intro h hw)|(refine gB ?_ ?_<;>intro h)|(refine gI ?_;intro x hx)|(refine gJ ?_;intro j x hj hx)|refine gP ?_|refine gV ?_|intro _))<;>try (conv=>whnf)
   ·refine nw ⟨k+1,o++[r],q⟩ ?_ ?_
    ·(repeat' ((conv=>whnf)<;>(first|exact trivial|exact rfl|with_reducible refine And.intro ?_ ?_)))<;>((conv=>whnf)<;>(simp))
    have e1:jB r=true:=by simp [jB, *]
    have e2:lu r=false:=by simp [lu, *]
    exact⟨by omega,by simp;omega,by omega,by rw [hsp,e1,ho];rfl,by rw [hsq,e2,hq];simp⟩
   ·refine nw ⟨k+1,o++[r],q⟩ ?_ ?_
    ·(repeat' ((conv=>whnf)<;>(first|exact trivial|exact rfl|with_reducible refine And.intro ?_ ?_)))<;>((conv=>whnf)<;>(simp))
    have e1:jB r=true:=by simp [jB, *]
    have e2:lu r=false:=by simp [lu, *]
    exact⟨by omega,by simp;omega,by omega,by rw [hsp,e1,ho];rfl,by rw [hsq,e2,hq];simp⟩
   ·refine nw ⟨k+1,o++[r],q⟩ ?_ ?_
    ·(repeat' ((conv=>whnf)<;>(first|exact trivial|exact rfl|with_reducible refine And.intro ?_ ?_)))<;>((conv=>whnf)<;>(simp))
    have e1:jB r=true:=by simp [jB, *]
    have e2:lu r=false:=by simp [lu, *]
    exact⟨by omega,by simp;omega,by omega,by rw [hsp,e1,ho];rfl,by rw [hsq,e2,hq];simp⟩
   ·refine nw ⟨k+1,o,q++[r]⟩ ?_ ?_
    ·(repeat' ((conv=>whnf)<;>(first|exact trivial|exact rfl|with_reducible refine And.intro ?_ ?_)))<;>((conv=>whnf)<;>(simp))
    have e1:jB r=false:=by simp [jB, *]
    have e2:lu r=true:=by simp [lu, *]
    exact⟨by omega,by omega,by simp;omega,by rw [hsp,e1,ho];simp,by rw [hsq,e2,hq];rfl⟩
   ·refine nx ⟨k+1,o,q⟩ ?_
    have e1:jB r=false:=by simp [jB, *]
    have e2:lu r=false:=by simp [lu, *]
    exact⟨by omega,by omega,by omega,by rw [hsp,e1,ho];simp,by rw [hsq,e2,hq];simp⟩
   ·exfalso;omega
  (repeat' ((conv=>whnf);first|(exfalso;omega)|refine gA ?_|(refine gN ?_ ?_<;>intro h hw)|(refine gB ?_ ?_<;>intro h)|(refine gI ?_;intro x hx)|(refine gJ ?_;intro j x hj hx)|refine gP ?_|refine gV ?_|intro _))<;>try (conv=>whnf)
  have ho':o=kF p:=by rw [ho,List.take_of_length_le (by omega),TJ]
  have hq':q=pU p:=by rw [hq,List.take_of_length_le (by omega),Vy]
  clear ho hq ol ql hlt hk
  subst ho' hq'
  refine aB [2,3,6,49,50] [2,3] [22] ?_
  (conv=>whnf)
  refine aA.go ((Nat)×(List Rul)) (fun⟨i,o⟩=>(i≤p.bB.length)∧(o.length≤20+50*i)∧(o=kF p++(List.range i).flatMap (tO p b))) (fun⟨i,o⟩=>[(51,.data (i64 i)),(5,.own 22 0)]) (fun _=>[]) (fun⟨i,o⟩=>[(22,73,o.map Rul.av,0)]) (fun⟨i,o⟩=>p.bB.length - i) ⟨0,kF p⟩ ?_ ?_
  ·exact⟨Nat.zero_le _,by omega,by simp⟩
  rintro⟨i,o⟩ ⟨hi,ol,ho⟩
  by_cases hil:i < p.bB.length
  rotate_left
  ·(repeat' ((conv=>whnf);first|(exfalso;omega)|refine gA ?_|(refine gN ?_ ?_<;>intro h hw)|(refine gB ?_ ?_<;>intro h)|(refine gI ?_;intro x hx)|(refine gJ ?_;intro j x hj hx)|refine gP ?_|refine gV ?_|intro _))<;>try (conv=>whnf)
   refine⟨?_,rfl,trivial⟩
   rw [EY,ho,show i=p.bB.length by omega];simp
  obtain⟨x,hx⟩:∃x,p.bB[i]? =some x:=⟨p.bB[i]'hil,by simp⟩
  have hst:=OD hpo hx
  (repeat' ((conv=>whnf);first|with_reducible refine Idx.got hx rfl ?_|refine gA ?_|(refine gN ?_ ?_<;>intro h hw)|(refine gB ?_ ?_<;>intro h)|(refine gI ?_;intro x hx)|(refine gJ ?_;intro j x hj hx)|refine gP ?_|refine gV ?_|intro _))<;>try (conv=>whnf)
  rotate_left
  ·exact trivial
  refine aB [2,3,5,6,9,49,50,51,59,60] [2,3] [] ?_
  (conv=>whnf)
  refine aA.go ((Nat)×(List Int)) (fun⟨j,t⟩=>(j≤x.steps.length)∧(t.length≤6+j)∧(setOf t=setOf (b.hi++(x.steps.take j).map Step.at'))) (fun⟨j,t⟩=>[(61,.data (i64 j)),(11,.data (ints t))]) (fun _=>[]) (fun _=>[]) (fun⟨j,t⟩=>x.steps.length - j) ⟨0,b.hi⟩ ?_ ?_
  ·exact⟨Nat.zero_le _,by omega,by simp⟩
  rintro⟨j,t⟩ ⟨hj,tl,ht⟩
  by_cases hjl:j < x.steps.length
  ·obtain⟨s,hs⟩:∃s,x.steps[j]? =some s:=⟨x.steps[j]'hjl,by simp⟩
   have hs1:t.length < lim:=by unfold lim;omega
   have hs2:=jV (t++[s.at'])
   simp only [List.length_append,List.length_cons,List.length_nil] at hs2
   (repeat' ((conv=>whnf);first|with_reducible refine Idx.got hs rfl ?_|refine gA ?_|(refine gN ?_ ?_<;>intro h hw)|(refine gB ?_ ?_<;>intro h)|(refine gI ?_;intro x hx)|(refine gJ ?_;intro j x hj hx)|refine gP ?_|refine gV ?_|refine gC (TG t s.at' hs1) ?_|intro _))<;>try (conv=>whnf)
   ·refine nx ⟨j+1,setOf (t++[s.at'])⟩ ?_
    refine⟨by omega,by omega,?_⟩
    rw [TF,XL _ ht,oO Step.at' hs,List.append_assoc]
   ·exfalso;omega
  (repeat' ((conv=>whnf);first|(exfalso;omega)|refine gA ?_|(refine gN ?_ ?_<;>intro h hw)|(refine gB ?_ ?_<;>intro h)|(refine gI ?_;intro x hx)|(refine gJ ?_;intro j x hj hx)|refine gP ?_|refine gV ?_|refine gC (pQ t) ?_|intro _))<;>try (conv=>whnf)
  rw [List.take_of_length_le (by omega)] at ht
  have htl:=jV t
  refine aB [2,3,6,9,49,50,51,71,72] [2,3] [22] ?_
  (conv=>whnf)
  refine aA.go ((Nat)×(List Rul)) (fun⟨m,o3⟩=>(m≤(setOf t).length)∧(o3.length≤20+50*i+m)∧(o3=o++(((setOf t).take m).filter eY).map (LH i))) (fun⟨m,o3⟩=>[(73,.data (i64 m)),(5,.own 22 0)]) (fun _=>[]) (fun⟨m,o3⟩=>[(22,73,o3.map Rul.av,0)]) (fun⟨m,o3⟩=>(setOf t).length - m) ⟨0,o⟩ ?_ ?_
  ·exact⟨Nat.zero_le _,by omega,by simp⟩
  rintro⟨m,o3⟩ ⟨hm,ol3,ho3⟩
  by_cases hml:m < (setOf t).length
  ·obtain⟨v,hv⟩:∃v,(setOf t)[m]? =some v:=⟨(setOf t)[m]'hml,by simp⟩
   (repeat' ((conv=>whnf);first|with_reducible refine Idx.got hv rfl ?_|refine gA ?_|(refine gN ?_ ?_<;>intro h hw)|(refine gB ?_ ?_<;>intro h)|(refine gI ?_;intro x hx)|(refine gJ ?_;intro j x hj hx)|refine gP ?_|refine gV ?_|refine gC (jZ v) ?_|intro _))<;>try (conv=>whnf)
   ·refine nw ⟨m+1,o3++[LH i v]⟩ ?_ ?_
    ·(repeat' ((conv=>whnf)<;>(first|exact trivial|exact rfl|with_reducible refine And.intro ?_ ?_)))<;>((conv=>whnf)<;>((simp [LH];try rfl)))
    exact⟨by omega,by simp;omega,(mG ho3 hv).1 (by assumption)⟩
   ·refine nx ⟨m+1,o3⟩ ?_
    exact⟨by omega,by omega,(mG ho3 hv).2 (by assumption)⟩
   ·exfalso;omega
  (repeat' ((conv=>whnf);first|(exfalso;omega)|refine gA ?_|(refine gN ?_ ?_<;>intro h hw)|(refine gB ?_ ?_<;>intro h)|(refine gI ?_;intro x hx)|(refine gJ ?_;intro j x hj hx)|refine gP ?_|refine gV ?_|refine gC (LG p b hp) ?_|intro _))<;>try (conv=>whnf)
  have aeg:o3=o++(EX b x).map (LH i):=by rw [ho3,List.take_of_length_le (by omega),EX,ht]
  have aey:o3.length≤20+50*i+14:=by omega
  clear ho3 ol3 hml hm
  refine aB [2,3,6,9,49,50,51,88,89] [2,3] [22] ?_
  (conv=>whnf)
  refine aA.go ((Nat)×(List Rul)) (fun⟨n,o4⟩=>(n≤(intervals p b).length)∧(o4.length≤34+50*i+n)∧(o4=o3++((intervals p b).take n).map (OB i))) (fun⟨n,o4⟩=>[(90,.data (i64 n)),(5,.own 22 0)]) (fun _=>[]) (fun⟨n,o4⟩=>[(22,73,o4.map Rul.av,0)]) (fun⟨n,o4⟩=>(intervals p b).length - n) ⟨0,o3⟩ ?_ ?_
  ·exact⟨Nat.zero_le _,by omega,by simp⟩
  rintro⟨n,o4⟩ ⟨hn,ol4,ho4⟩
  by_cases hnl:n < (intervals p b).length
  ·obtain⟨q2,hq2⟩:∃q2,(intervals p b)[n]? =some q2:=⟨(intervals p b)[n]'hnl,by simp⟩
   obtain⟨u,v,rfl,_⟩:=Cc (List.mem_of_getElem? hq2)
   (repeat' ((conv=>whnf);first|with_reducible refine Idx.got hq2 rfl ?_|with_reducible refine Idx.got (l:=[u,v]) (k:=0) rfl rfl ?_|with_reducible refine Idx.got (l:=[u,v]) (k:=1) rfl rfl ?_|refine gA ?_|(refine gN ?_ ?_<;>intro h hw)|(refine gB ?_ ?_<;>intro h)|(refine gI ?_;intro x hx)|(refine gJ ?_;intro j x hj hx)|refine gP ?_|refine gV ?_|intro _))<;>try (conv=>whnf)
   ·refine nw ⟨n+1,o4++[OB i [u,v]]⟩ ?_ ?_
    ·(repeat' ((conv=>whnf)<;>(first|exact trivial|exact rfl|with_reducible refine And.intro ?_ ?_)))<;>((conv=>whnf)<;>((simp [OB];try rfl)))
    exact⟨by omega,by simp;omega,by rw [ho4,oO _ hq2,List.append_assoc]⟩
   all_goals (first|(exfalso;omega)|exact trivial)
  ·(repeat' ((conv=>whnf);first|(exfalso;omega)|refine gA ?_|(refine gN ?_ ?_<;>intro h hw)|(refine gB ?_ ?_<;>intro h)|(refine gI ?_;intro x hx)|(refine gJ ?_;intro j x hj hx)|refine gP ?_|refine gV ?_|intro _))<;>try (conv=>whnf)
   refine nx ⟨i+1,o4⟩ ?_
   refine⟨by omega,by omega,?_⟩
   rw [ho4,aeg,ho,List.take_of_length_le (by omega),Vz,Ip hx];simp
end Go.Proofs.YtmenphiahgkjkaaGreatDoor.Abs
