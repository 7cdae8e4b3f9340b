/- Contracts: intervals; the rules that may refute. -/
import Derived.Test.YtjfnojijdggfhaaGreatC27
import Derived.Test.YtjfnojijdggfhaaGreatC20a
set_option linter.all false
set_option maxRecDepth 20000
set_option maxHeartbeats 0
namespace Go.Proofs.YtjfnojijdggfhaaGreat.Abs
open Go.Proofs
def Ma:Bool→Int→List Int→Int
 |_,n,[]=>n
 |b,n,x::r=>Ma false (if b=true∨x > n then x else n) r
def CO (a:aJ) (ms:List Int):Int:=Ma true 0 ((chosen a ms).map Mode.dur)
theorem Ho {c:Int}:∀(l:List Int) (b:Bool) (n:Int),(0≤n∧n≤c)→(∀x∈l,0≤x∧x≤c)→0≤Ma b n l∧Ma b n l≤c
 |[],_,n,h,_=>h
 |x::r,b,n,h,h'=>by
  rw [Ma]
  refine Ho r false _ ?_ fun y hy=>h' y (by simp [hy])
  split
  ·exact h' x (by simp)
  ·exact h
theorem Mc {a:aJ} {r s:Int} (h:bg a r s=true) (ms:List Int):0≤CO a ms∧CO a ms≤12:=by
 refine Ho _ _ _ (by omega) fun x hx=>?_
 obtain⟨m,hm,rfl⟩:=List.mem_map.1 hx
 have:=(jc h (tO hm)).1
 omega
theorem CP (a:aJ) (ms:List Int):Con 129 [.d a.av,.d (ints ms)] (.d (i64 (CO a ms))):=by
 refine con Tryz.func129 rfl rfl Tryz.call129 rfl fun hwf=>?_
 simp only [ARs.wf,AR.wf,AV.wf,AV.wfs,lm,lim] at hwf
 have hl:=Gv a ms
 (repeat' ((conv=>whnf);first|refine gA ?_|(refine gB ?_ ?_<;>intro h)|(refine gI ?_;intro x hx)|(refine gJ ?_;intro j x hj hx)|refine gV ?_|refine gC (qJ a ms) ?_|intro _))<;>try (conv=>whnf)
 refine aC [10,11] [] [] ?_
 (conv=>whnf)
 refine aB.go ((Nat)×(Int)) (fun⟨k,n⟩=>(k≤(chosen a ms).length)∧(Ma (decide ((k:Int)=0)) n (((chosen a ms).drop k).map Mode.dur)=CO a ms)) (fun⟨k,n⟩=>[(12,.data (i64 k)),(5,.data (i64 n))]) (fun _=>[]) (fun _=>[]) (fun⟨k,n⟩=>(chosen a ms).length - k) ⟨0,0⟩ ?_ ?_
 ·exact⟨by omega,rfl⟩
 rintro⟨k,n⟩ ⟨hk,hi⟩
 (repeat' ((conv=>whnf);first|refine gA ?_|(refine gB ?_ ?_<;>intro h)|(refine gI ?_;intro x hx)|(refine gJ ?_;intro j x hj hx)|refine gV ?_|intro _))<;>try (conv=>whnf)
 ·refine nx ⟨k+1,x.dur⟩ ?_
  rw [au hx,List.map_cons,Ma,if_pos (.inl (by simp [h]))] at hi
  exact⟨by omega,by rw [decide_eq_false (show ¬((k+1:Nat):Int)=0 by omega)];exact hi⟩
 ·refine nx ⟨k+1,x.dur⟩ ?_
  rw [au hx,List.map_cons,Ma,if_pos (.inr h)] at hi
  exact⟨by omega,by rw [decide_eq_false (show ¬((k+1:Nat):Int)=0 by omega)];exact hi⟩
 ·refine nx ⟨k+1,n⟩ ?_
  rw [au hx,List.map_cons,Ma,if_neg (by rw [decide_eq_true_eq];omega)] at hi
  exact⟨by omega,by rw [decide_eq_false (show ¬((k+1:Nat):Int)=0 by omega)];exact hi⟩
 ·refine⟨?_,rfl,trivial⟩
  rw [← hi,aM (by assumption)];rfl
def Md (p:Proj) (b:Dom) (i:Nat):Int:=b.hi.getD i 0+CO (aT p i) (b.modes.getD i [])
def mh (p:Proj) (b:Dom) (k:Nat):List Int:=(List.range k).map (Md p b)
abbrev Ud (p:Proj) (b:Dom):List Int:=setOf (mh p b p.acts.length)
def Ow (x y:Int):Bool:=bZ x&&bZ y&&decide (x < y)
def Rl (p:Proj) (b:Dom) (x:Int):List (List Int):=((Ud p b).filter (Ow x)).map fun y=>[x,y]
def intervals (p:Proj) (b:Dom):List (List Int):=if usable p b=true then (setOf b.lo).flatMap (Rl p b) else []
theorem Sj {p:Proj} {b:Dom} {k:Nat} {a:aJ} {x y:Int} {m:List Int} (g:fB p b k a x y m):Md p b k=y+CO a m:=by
 simp [Md,aT,List.getD_eq_getElem?_getD,g.act,g.hi,g.modes]
theorem Qh (p:Proj) (b:Dom) (k:Nat):mh p b (k+1)=mh p b k++[Md p b k]:=by simp [mh,List.range_succ]
theorem Ka (p:Proj) (b:Dom) (k:Nat):(mh p b k).length=k:=by simp [mh]
theorem Sk {α β:Type} {f:α→List β} {l:List α} {k:Nat} {x:α} {o:List β} (ho:o=(l.take k).flatMap f) (h:l[k]? =some x):o++f x=(l.take (k+1)).flatMap f:=by
 obtain⟨hk,rfl⟩:=List.getElem?_eq_some_iff.1 h
 rw [ho,List.take_succ_eq_append_getElem hk,List.flatMap_append];simp
theorem kE {α β:Type} {f:α→Bool} {g:α→β} {l:List α} {k:Nat} {x:α} {q o:List β} (ho:o=q++((l.take k).filter f).map g) (h:l[k]? =some x):
  (f x=true→o++[g x]=q++((l.take (k+1)).filter f).map g)∧(f x=false→o=q++((l.take (k+1)).filter f).map g):=by
 obtain⟨hk,rfl⟩:=List.getElem?_eq_some_iff.1 h
 rw [List.take_succ_eq_append_getElem hk,List.filter_append]
 exact⟨fun hf=>by rw [ho];simp [hf],fun hf=>by rw [ho];simp [hf]⟩
theorem mD {p:Proj} {b:Dom} (h:usable p b=true):aA p b=true∧aS b=false:=by simpa [usable] using h
theorem Hq (p:Proj) (b:Dom) (hp:p.fine):Con 68 [.d p.av,.d b.av] (.d (.sl ((intervals p b).map ints))):=by
 refine con Tryz.func68 rfl rfl Tryz.call68 rfl fun hwf=>?_
 simp only [ARs.wf,AR.wf,AV.wf,AV.wfs,lm,lim] at hwf
 cases hu:usable p b with
 |false=>
  (repeat' ((conv=>whnf);first|refine gA ?_|(refine gN ?_ ?_<;>intro h hw)|(refine gB ?_ ?_<;>intro h)|(refine gI ?_;intro x hx)|(refine gJ ?_;intro j x hj hx)|refine gP ?_|refine gV ?_|refine gC (eZ p b hp) ?_|intro _))<;>try (conv=>whnf)
  refine⟨?_,rfl,trivial⟩;rw [intervals,if_neg (by rw [hu];exact Bool.false_ne_true)];rfl
 |true=>
  rw [intervals,if_pos hu]
  have hf:=(mD hu).1
  obtain⟨hpo,l1,l2,l3,_⟩:=dw hf
  have hna:=(eB hpo).IV
  have hel:=Ka p b
  have hsl:=iQ b.lo
  have hse:(setOf (mh p b p.acts.length)).length≤p.acts.length:=by have:=iQ (mh p b p.acts.length);rw [hel] at this;exact this
  (repeat' ((conv=>whnf);first|refine gA ?_|(refine gN ?_ ?_<;>intro h hw)|(refine gB ?_ ?_<;>intro h)|(refine gI ?_;intro x hx)|(refine gJ ?_;intro j x hj hx)|refine gP ?_|refine gV ?_|refine gC (eZ p b hp) ?_|intro _))<;>try (conv=>whnf)
  refine aC [3,6,20,21] [3] [17] ?_
  (conv=>whnf)
  refine aB.go ((Nat)) (fun k=>(k≤p.acts.length)) (fun k=>[(22,.data (i64 k)),(5,.own 17 0)]) (fun _=>[]) (fun k=>[(17,3,(mh p b k).map i64,0)]) (fun k=>p.acts.length - k) (0) ?_ ?_
  ·exact Nat.zero_le _
  rintro k hk
  have hek:=hel k
  by_cases hlt:k < p.acts.length
  ·obtain⟨a,lo,up,m,g⟩:=fF hf hlt
   have h1:=g.hib
   have h2:=Mc g.aok m
   (repeat' ((conv=>whnf);first|with_reducible refine Idx.got g.act rfl ?_|with_reducible refine Idx.got g.hi rfl ?_|with_reducible refine Idx.got g.modes rfl ?_|refine gA ?_|(refine gN ?_ ?_<;>intro h hw)|(refine gB ?_ ?_<;>intro h)|(refine gI ?_;intro x hx)|(refine gJ ?_;intro j x hj hx)|refine gP ?_|refine gV ?_|refine gC (CP a m) ?_|intro _))<;>try (conv=>whnf)
   ·refine nw (k+1) ?_ ?_
    ·(repeat' ((conv=>whnf)<;>(first|exact trivial|exact rfl|with_reducible refine And.intro ?_ ?_)))<;>((conv=>whnf)<;>((rw [Qh,Sj g];simp)))
    exact (by omega:k+1≤p.acts.length)
   ·exfalso;omega
  (repeat' ((conv=>whnf);first|(exfalso;omega)|refine gA ?_|(refine gN ?_ ?_<;>intro h hw)|(refine gB ?_ ?_<;>intro h)|(refine gI ?_;intro x hx)|(refine gJ ?_;intro j x hj hx)|refine gP ?_|refine gV ?_|refine gC (mM b.lo) ?_|intro _))<;>try (conv=>whnf)
  rw [show k=p.acts.length by omega]
  refine aC [46,47] [] [18] ?_
  (conv=>whnf)
  refine aB.go ((Nat)×(List (List Int))) (fun⟨i,o⟩=>(i≤(setOf b.lo).length)∧(o.length≤6*i)∧(o=((setOf b.lo).take i).flatMap (Rl p b))) (fun⟨i,o⟩=>[(48,.data (i64 i)),(5,.data (ints (mh p b p.acts.length))),(6,.own 18 0)]) (fun _=>[]) (fun⟨i,o⟩=>[(18,26,o.map ints,0)]) (fun⟨i,o⟩=>(setOf b.lo).length - i) ⟨0,[]⟩ ?_ ?_
  ·exact⟨Nat.zero_le _,by simp,by simp⟩
  rintro⟨i,o⟩ ⟨hi,ol,ho⟩
  by_cases hil:i < (setOf b.lo).length
  rotate_left
  ·(repeat' ((conv=>whnf);first|(exfalso;omega)|refine gA ?_|(refine gN ?_ ?_<;>intro h hw)|(refine gB ?_ ?_<;>intro h)|(refine gI ?_;intro x hx)|(refine gJ ?_;intro j x hj hx)|refine gP ?_|refine gV ?_|intro _))<;>try (conv=>whnf)
   refine⟨?_,rfl,trivial⟩
   rw [ho,List.take_of_length_le (by omega)]
  obtain⟨x0,hx0⟩:∃x0,(setOf b.lo)[i]? =some x0:=⟨(setOf b.lo)[i]'hil,by simp⟩
  (repeat' ((conv=>whnf);first|with_reducible refine Idx.got hx0 rfl ?_|refine gA ?_|(refine gN ?_ ?_<;>intro h hw)|(refine gB ?_ ?_<;>intro h)|(refine gI ?_;intro x hx)|(refine gJ ?_;intro j x hj hx)|refine gP ?_|refine gV ?_|refine gC (mM (mh p b p.acts.length)) ?_|intro _))<;>try (conv=>whnf)
  rotate_left
  ·exact trivial
  refine aC [5,10,46,47,48,53,54] [] [18] ?_
  (conv=>whnf)
  refine aB.go ((Nat)×(List (List Int))) (fun⟨j,o2⟩=>(j≤(setOf (mh p b p.acts.length)).length)∧(o2.length≤6*i+j)∧(o2=o++(((setOf (mh p b p.acts.length)).take j).filter (Ow x0)).map (fun y=>[x0,y]))) (fun⟨j,o2⟩=>[(55,.data (i64 j)),(6,.own 18 0)]) (fun _=>[]) (fun⟨j,o2⟩=>[(18,26,o2.map ints,0)]) (fun⟨j,o2⟩=>(setOf (mh p b p.acts.length)).length - j) ⟨0,o⟩ ?_ ?_
  ·exact⟨Nat.zero_le _,by omega,by simp⟩
  rintro⟨j,o2⟩ ⟨hj,ol2,ho2⟩
  by_cases hjl:j < (setOf (mh p b p.acts.length)).length
  ·obtain⟨y0,hy0⟩:∃y0,(setOf (mh p b p.acts.length))[j]? =some y0:=⟨(setOf (mh p b p.acts.length))[j]'hjl,by simp⟩
   (repeat' ((conv=>whnf);first|with_reducible refine Idx.got hy0 rfl ?_|refine gA ?_|(refine gN ?_ ?_<;>intro h hw)|(refine gB ?_ ?_<;>intro h)|(refine gI ?_;intro x hx)|(refine gJ ?_;intro j x hj hx)|refine gP ?_|refine gV ?_|refine gC (iW _) ?_|intro _))<;>try (conv=>whnf)
   ·refine nw ⟨j+1,o2++[[x0,y0]]⟩ ?_ ?_
    ·(repeat' ((conv=>whnf)<;>(first|exact trivial|exact rfl|with_reducible refine And.intro ?_ ?_)))<;>((conv=>whnf)<;>(simp))
    exact⟨by omega,by simp;omega,(kE ho2 hy0).1 (by simp [Ow, *])⟩
   ·refine nx ⟨j+1,o2⟩ ?_
    exact⟨by omega,by omega,(kE ho2 hy0).2 (by simp [Ow, *])⟩
   ·refine nx ⟨j+1,o2⟩ ?_
    exact⟨by omega,by omega,(kE ho2 hy0).2 (by simp [Ow, *])⟩
   ·refine nx ⟨j+1,o2⟩ ?_
    exact⟨by omega,by omega,(kE ho2 hy0).2 (by simp [Ow, *])⟩
   ·exfalso;omega
  ·(repeat' ((conv=>whnf);first|(exfalso;omega)|refine gA ?_|(refine gN ?_ ?_<;>intro h hw)|(refine gB ?_ ?_<;>intro h)|(refine gI ?_;intro x hx)|(refine gJ ?_;intro j x hj hx)|refine gP ?_|refine gV ?_|intro _))<;>try (conv=>whnf)
   refine nx ⟨i+1,o2⟩ ?_
   refine⟨by omega,by omega,?_⟩
   rw [ho2,List.take_of_length_le (by omega)]
   exact Sk ho hx0
open Go.Proofs
def jd (p:Proj):List Rul:=(List.range p.links.length).map kN++(List.range p.acts.length).map endRule++(List.range p.bn.length).map jq
def oM (p:Proj):List Rul:=(List.range p.bM.length).flatMap fun r=>(List.range p.acts.length).flatMap (eO p r)
def AZ (b:Dom) (x:gH):List Int:=(setOf (b.hi++x.steps.map Step.at')).filter bZ
def Kc (i:Nat) (t:Int):Rul:=⟨3,i,t,0⟩
def Ox (i:Nat) (q:List Int):Rul:=⟨4,i,q.getD 0 0,q.getD 1 0⟩
def qc (p:Proj) (b:Dom) (i:Nat):List Rul:=
 match p.bM[i]? with
 |some x=>(AZ b x).map (Kc i)++(intervals p b).map (Ox i)
 |none=>[]
def EU (p:Proj) (b:Dom):List Rul:=jd p++(List.range p.bM.length).flatMap (qc p b)++oM p
def iR (p:Proj) (b:Dom):List Rul:=if usable p b=true then EU p b else []
def gZ (r:Rul):Bool:=decide (r.kind=1)||decide (r.kind=2)||decide (r.kind=6)
def jP (r:Rul):Bool:=decide (r.kind=5)
theorem Hr {α β:Type} {f:β→Bool} {g:α→β} {l:List α} (h:∀x,f (g x)=true):(l.map g).filter f=l.map g:=List.filter_eq_self.2 fun y hy=>by
 obtain⟨x,_,rfl⟩:=List.mem_map.1 hy;exact h x
theorem CQ {α β:Type} {f:β→Bool} {g:α→β} {l:List α} (h:∀x,f (g x)=false):(l.map g).filter f= []:=List.filter_eq_nil_iff.2 fun y hy=>by
 obtain⟨x,_,rfl⟩:=List.mem_map.1 hy;rw [h x];exact Bool.false_ne_true
theorem Me {p:Proj} {r b:Nat} {y:Rul} (h:y∈eO p r b):y.kind=5:=by
 unfold eO at h
 split at h
 ·obtain⟨j,_,rfl⟩:=List.mem_map.1 h;rfl
 ·simp at h
theorem Ht {n:Nat} {y:Rul} (h:y∈(List.range n).flatMap lZ):y.kind=3:=by
 obtain⟨r,_,h⟩:=List.mem_flatMap.1 h
 obtain⟨j,_,rfl⟩:=List.mem_map.1 h;rfl
theorem Hu {p:Proj} {y:Rul} (h:y∈oM p):y.kind=5:=by
 obtain⟨r,_,h⟩:=List.mem_flatMap.1 h
 obtain⟨b,_,h⟩:=List.mem_flatMap.1 h
 exact Me h
theorem Oy (p:Proj):(aZ p).filter gZ=jd p:=by
 have h1:((List.range p.bM.length).flatMap lZ).filter gZ= []:=List.filter_eq_nil_iff.2 fun y hy=>by rw [gZ,Ht hy];decide
 have h2:((List.range p.bM.length).flatMap fun r=>(List.range p.acts.length).flatMap (eO p r)).filter gZ= []:=List.filter_eq_nil_iff.2 fun y hy=>by rw [gZ,Hu hy];decide
 simp only [aZ,List.filter_append,h1,h2,jd]
 rw [Hr (fun _=>rfl),Hr (fun _=>rfl),Hr (fun _=>rfl)]
 simp
theorem Qi (p:Proj):(aZ p).filter jP=oM p:=by
 have h1:((List.range p.bM.length).flatMap lZ).filter jP= []:=List.filter_eq_nil_iff.2 fun y hy=>by rw [jP,Ht hy];decide
 have h2:((List.range p.bM.length).flatMap fun r=>(List.range p.acts.length).flatMap (eO p r)).filter jP=oM p:=List.filter_eq_self.2 fun y hy=>by rw [jP,Hu hy];rfl
 simp only [aZ,List.filter_append,h1,h2]
 rw [CQ (fun _=>rfl),CQ (fun _=>rfl),CQ (fun _=>rfl)]
 simp
theorem lD {α β:Type} {f:α→List β} {c:Nat}:∀{l:List α},(∀x∈l,(f x).length≤c)→(l.flatMap f).length≤c*l.length
 |[],_=>by simp
 |x::l,h=>by
  have h1:=h x (by simp)
  have h2:=lD (l:=l) fun y hy=>h y (by simp [hy])
  simp only [List.flatMap_cons,List.length_append,List.length_cons,Nat.mul_add];omega
theorem Ke {p:Proj} (ho:aK p=true):(jd p).length≤20:=by
 have:=kZ ho
 simp only [jd,List.length_append,List.length_map,List.length_range];omega
theorem Oz (p:Proj) (r b:Nat):(eO p r b).length≤p.acts.length:=by
 unfold eO;split
 ·simp
 ·simp
theorem Hw {p:Proj} (ho:aK p=true):(oM p).length≤108:=by
 have hs:=kZ ho
 have h2:∀r,((List.range p.acts.length).flatMap (eO p r)).length≤36:=fun r=>by
  have:=lD (f:=eO p r) (c:=6) (l:=List.range p.acts.length) fun b _=>Nat.le_trans (Oz p r b) hs.1.2
  simp only [List.length_range] at this;omega
 have:=lD (f:=fun r=>(List.range p.acts.length).flatMap (eO p r)) (c:=36) (l:=List.range p.bM.length) fun r _=>h2 r
 simp only [List.length_range] at this
 show ((List.range p.bM.length).flatMap fun r=>(List.range p.acts.length).flatMap (eO p r)).length≤108
 omega
theorem xY {p:Proj} {b:Dom} (hf:aA p b=true):(intervals p b).length≤36:=by
 unfold intervals
 split
 ·obtain⟨hpo,l1,l2,l3,_⟩:=dw hf
  have hna:=(eB hpo).IV
  have h1:=iQ b.lo
  have h2:=iQ (mh p b p.acts.length)
  rw [Ka] at h2
  have h3:=lD (f:=Rl p b) (c:=6) (l:=setOf b.lo) fun x _=>by
   have:=List.length_filter_le (Ow x) (setOf (mh p b p.acts.length))
   simp only [Rl,Ud,List.length_map];omega
  omega
 ·simp
theorem Jb {p:Proj} {b:Dom} {q:List Int} (h:q∈intervals p b):∃x y,q= [x,y]∧bZ x=true∧bZ y=true∧x < y:=by
 unfold intervals at h
 split at h
 ·obtain⟨x,_,h⟩:=List.mem_flatMap.1 h
  obtain⟨y,hy,rfl⟩:=List.mem_map.1 h
  have:=(List.mem_filter.1 hy).2
  simp only [Ow,Bool.and_eq_true,decide_eq_true_eq] at this
  exact⟨x,y,rfl,this.1.1,this.1.2,this.2⟩
 ·simp at h
theorem Kg {p:Proj} (ho:aK p=true) {k:Nat} {x:gH} (h:p.bM[k]? =some x):x.steps.length≤8:=by
 have:=(eB ho).res k x h
 simp only [jF,Bool.and_eq_true,iH,within_iff] at this
 omega
theorem Sl {p:Proj} (ho:aK p=true):(aZ p).length≤400:=by
 have hs:=kZ ho
 have h1:=lD (f:=lZ) (c:=61) (l:=List.range p.bM.length) fun r _=>by simp [lZ]
 have h2:((List.range p.bM.length).flatMap fun r=>(List.range p.acts.length).flatMap (eO p r)).length≤108:=Hw ho
 simp only [List.length_range] at h1
 simp only [aZ,List.length_append,List.length_map,List.length_range];omega
theorem DU {α:Type} (f:α→Bool) {l:List α} {k:Nat} {x:α} (h:l[k]? =some x):(l.take (k+1)).filter f=(l.take k).filter f++if f x=true then [x] else []:=by
 obtain⟨hk,rfl⟩:=List.getElem?_eq_some_iff.1 h
 rw [List.take_succ_eq_append_getElem hk,List.filter_append]
 congr 1
 simp [List.filter_cons]
theorem Sn {t u:List Int} (x:Int) (h:setOf t=setOf u):setOf (t++[x])=setOf (u++[x]):=by rw [← Hf,h,Hf]
theorem OA {α β:Type} (f:α→β) {l:List α} {k:Nat} {x:α} (h:l[k]? =some x):(l.take (k+1)).map f=(l.take k).map f++[f x]:=(jr f h).symm
theorem OB {p:Proj} {b:Dom} {i:Nat} {x:gH} (h:p.bM[i]? =some x):qc p b i=(AZ b x).map (Kc i)++(intervals p b).map (Ox i):=by simp only [qc,h]
theorem Qj {α:Type} (f:Nat→List α) (n:Nat):(List.range (n+1)).flatMap f=(List.range n).flatMap f++f n:=by rw [List.range_succ,List.flatMap_append];simp
theorem xq (p:Proj) (b:Dom) (hp:p.fine):Con 18 [.d p.av,.d b.av] (.d (.sl ((iR p b).map Rul.av))):=by
 refine con Tryz.func18 rfl rfl Tryz.call18 rfl fun hwf=>?_
 simp only [ARs.wf,AR.wf,AV.wf,AV.wfs,lm,lim] at hwf
 cases hu:usable p b with
 |false=>
  (repeat' ((conv=>whnf);first|refine gA ?_|(refine gN ?_ ?_<;>intro h hw)|(refine gB ?_ ?_<;>intro h)|(refine gI ?_;intro x hx)|(refine gJ ?_;intro j x hj hx)|refine gP ?_|refine gV ?_|refine gC (eZ p b hp) ?_|intro _))<;>try (conv=>whnf)
  refine⟨?_,rfl,trivial⟩;rw [iR,if_neg (by rw [hu];exact Bool.false_ne_true)];rfl
 |true=>
  rw [iR,if_pos hu]
  have hf:=(mD hu).1
  obtain⟨hpo,l1,l2,l3,_⟩:=dw hf
  have hna:=(eB hpo).IV
  obtain⟨_,hr3,_,_⟩:=kZ hpo
  have hpl:=Ke hpo
  have hpp:=Hw hpo
  have hiv:=xY hf
  (repeat' ((conv=>whnf);first|refine gA ?_|(refine gN ?_ ?_<;>intro h hw)|(refine gB ?_ ?_<;>intro h)|(refine gI ?_;intro x hx)|(refine gJ ?_;intro j x hj hx)|refine gP ?_|refine gV ?_|refine gC (eZ p b hp) ?_|refine gC (Hl p hpo) ?_|intro _))<;>try (conv=>whnf)
  refine aC [2,3,25,26] [2,3] [22,23] ?_
  (conv=>whnf)
  refine aB.go ((Nat)×(List Rul)×(List Rul)) (fun⟨k,o,q⟩=>(k≤(aZ p).length)∧(o.length≤k)∧(q.length≤k)∧(o=((aZ p).take k).filter gZ)∧(q=((aZ p).take k).filter jP)) (fun⟨k,o,q⟩=>[(27,.data (i64 k)),(5,.own 22 0),(6,.own 23 0)]) (fun _=>[]) (fun⟨k,o,q⟩=>[(22,35,o.map Rul.av,0),(23,35,q.map Rul.av,0)]) (fun⟨k,o,q⟩=>(aZ p).length - k) ⟨0,[],[]⟩ ?_ ?_
  ·exact⟨Nat.zero_le _,Nat.le_refl _,Nat.le_refl _,rfl,rfl⟩
  rintro⟨k,o,q⟩ ⟨hk,ol,ql,ho,hq⟩
  by_cases hlt:k < (aZ p).length
  ·obtain⟨r,hr⟩:∃r,(aZ p)[k]? =some r:=⟨(aZ p)[k]'hlt,by simp⟩
   have hrl:=Sl hpo
   have hsp:=DU gZ hr
   have hsq:=DU jP hr
   (repeat' ((conv=>whnf);first|with_reducible refine Idx.got hr rfl ?_|refine gA ?_|(refine gN ?_ ?_<;>intro h hw)|(refine gB ?_ ?_<;>intro h)|(refine gI ?_;intro x hx)|(refine gJ ?_;intro j x hj hx)|refine gP ?_|refine gV ?_|intro _))<;>try (conv=>whnf)
   ·refine nw ⟨k+1,o++[r],q⟩ ?_ ?_
    ·(repeat' ((conv=>whnf)<;>(first|exact trivial|exact rfl|with_reducible refine And.intro ?_ ?_)))<;>((conv=>whnf)<;>(simp))
    have e1:gZ r=true:=by simp [gZ, *]
    have e2:jP r=false:=by simp [jP, *]
    exact⟨by omega,by simp;omega,by omega,by rw [hsp,e1,ho];rfl,by rw [hsq,e2,hq];simp⟩
   ·refine nw ⟨k+1,o++[r],q⟩ ?_ ?_
    ·(repeat' ((conv=>whnf)<;>(first|exact trivial|exact rfl|with_reducible refine And.intro ?_ ?_)))<;>((conv=>whnf)<;>(simp))
    have e1:gZ r=true:=by simp [gZ, *]
    have e2:jP r=false:=by simp [jP, *]
    exact⟨by omega,by simp;omega,by omega,by rw [hsp,e1,ho];rfl,by rw [hsq,e2,hq];simp⟩
   ·refine nw ⟨k+1,o++[r],q⟩ ?_ ?_
    ·(repeat' ((conv=>whnf)<;>(first|exact trivial|exact rfl|with_reducible refine And.intro ?_ ?_)))<;>((conv=>whnf)<;>(simp))
    have e1:gZ r=true:=by simp [gZ, *]
    have e2:jP r=false:=by simp [jP, *]
    exact⟨by omega,by simp;omega,by omega,by rw [hsp,e1,ho];rfl,by rw [hsq,e2,hq];simp⟩
   ·refine nw ⟨k+1,o,q++[r]⟩ ?_ ?_
    ·(repeat' ((conv=>whnf)<;>(first|exact trivial|exact rfl|with_reducible refine And.intro ?_ ?_)))<;>((conv=>whnf)<;>(simp))
    have e1:gZ r=false:=by simp [gZ, *]
    have e2:jP r=true:=by simp [jP, *]
    exact⟨by omega,by omega,by simp;omega,by rw [hsp,e1,ho];simp,by rw [hsq,e2,hq];rfl⟩
   ·refine nx ⟨k+1,o,q⟩ ?_
    have e1:gZ r=false:=by simp [gZ, *]
    have e2:jP r=false:=by simp [jP, *]
    exact⟨by omega,by omega,by omega,by rw [hsp,e1,ho];simp,by rw [hsq,e2,hq];simp⟩
   ·exfalso;omega
  (repeat' ((conv=>whnf);first|(exfalso;omega)|refine gA ?_|(refine gN ?_ ?_<;>intro h hw)|(refine gB ?_ ?_<;>intro h)|(refine gI ?_;intro x hx)|(refine gJ ?_;intro j x hj hx)|refine gP ?_|refine gV ?_|intro _))<;>try (conv=>whnf)
  have ho':o=jd p:=by rw [ho,List.take_of_length_le (by omega),Oy]
  have hq':q=oM p:=by rw [hq,List.take_of_length_le (by omega),Qi]
  clear ho hq ol ql hlt hk
  subst ho' hq'
  refine aC [2,3,6,49,50] [2,3] [22] ?_
  (conv=>whnf)
  refine aB.go ((Nat)×(List Rul)) (fun⟨i,o⟩=>(i≤p.bM.length)∧(o.length≤20+50*i)∧(o=jd p++(List.range i).flatMap (qc p b))) (fun⟨i,o⟩=>[(51,.data (i64 i)),(5,.own 22 0)]) (fun _=>[]) (fun⟨i,o⟩=>[(22,35,o.map Rul.av,0)]) (fun⟨i,o⟩=>p.bM.length - i) ⟨0,jd p⟩ ?_ ?_
  ·exact⟨Nat.zero_le _,by omega,by simp⟩
  rintro⟨i,o⟩ ⟨hi,ol,ho⟩
  by_cases hil:i < p.bM.length
  rotate_left
  ·(repeat' ((conv=>whnf);first|(exfalso;omega)|refine gA ?_|(refine gN ?_ ?_<;>intro h hw)|(refine gB ?_ ?_<;>intro h)|(refine gI ?_;intro x hx)|(refine gJ ?_;intro j x hj hx)|refine gP ?_|refine gV ?_|intro _))<;>try (conv=>whnf)
   refine⟨?_,rfl,trivial⟩
   rw [EU,ho,show i=p.bM.length by omega];simp
  obtain⟨x,hx⟩:∃x,p.bM[i]? =some x:=⟨p.bM[i]'hil,by simp⟩
  have hst:=Kg hpo hx
  (repeat' ((conv=>whnf);first|with_reducible refine Idx.got hx rfl ?_|refine gA ?_|(refine gN ?_ ?_<;>intro h hw)|(refine gB ?_ ?_<;>intro h)|(refine gI ?_;intro x hx)|(refine gJ ?_;intro j x hj hx)|refine gP ?_|refine gV ?_|intro _))<;>try (conv=>whnf)
  rotate_left
  ·exact trivial
  refine aC [2,3,5,6,9,49,50,51,59,60] [2,3] [] ?_
  (conv=>whnf)
  refine aB.go ((Nat)×(List Int)) (fun⟨j,t⟩=>(j≤x.steps.length)∧(t.length≤6+j)∧(setOf t=setOf (b.hi++(x.steps.take j).map Step.at'))) (fun⟨j,t⟩=>[(61,.data (i64 j)),(11,.data (ints t))]) (fun _=>[]) (fun _=>[]) (fun⟨j,t⟩=>x.steps.length - j) ⟨0,b.hi⟩ ?_ ?_
  ·exact⟨Nat.zero_le _,by omega,by simp⟩
  rintro⟨j,t⟩ ⟨hj,tl,ht⟩
  by_cases hjl:j < x.steps.length
  ·obtain⟨s,hs⟩:∃s,x.steps[j]? =some s:=⟨x.steps[j]'hjl,by simp⟩
   have hs1:t.length < lim:=by unfold lim;omega
   have hs2:=iQ (t++[s.at'])
   simp only [List.length_append,List.length_cons,List.length_nil] at hs2
   (repeat' ((conv=>whnf);first|with_reducible refine Idx.got hs rfl ?_|refine gA ?_|(refine gN ?_ ?_<;>intro h hw)|(refine gB ?_ ?_<;>intro h)|(refine gI ?_;intro x hx)|(refine gJ ?_;intro j x hj hx)|refine gP ?_|refine gV ?_|refine gC (Ou t s.at' hs1) ?_|intro _))<;>try (conv=>whnf)
   ·refine nx ⟨j+1,setOf (t++[s.at'])⟩ ?_
    refine⟨by omega,by omega,?_⟩
    rw [Ot,Sn _ ht,OA Step.at' hs,List.append_assoc]
   ·exfalso;omega
  (repeat' ((conv=>whnf);first|(exfalso;omega)|refine gA ?_|(refine gN ?_ ?_<;>intro h hw)|(refine gB ?_ ?_<;>intro h)|(refine gI ?_;intro x hx)|(refine gJ ?_;intro j x hj hx)|refine gP ?_|refine gV ?_|refine gC (mM t) ?_|intro _))<;>try (conv=>whnf)
  rw [List.take_of_length_le (by omega)] at ht
  have htl:=iQ t
  refine aC [2,3,6,9,49,50,51,71,72] [2,3] [22] ?_
  (conv=>whnf)
  refine aB.go ((Nat)×(List Rul)) (fun⟨m,o3⟩=>(m≤(setOf t).length)∧(o3.length≤20+50*i+m)∧(o3=o++(((setOf t).take m).filter bZ).map (Kc i))) (fun⟨m,o3⟩=>[(73,.data (i64 m)),(5,.own 22 0)]) (fun _=>[]) (fun⟨m,o3⟩=>[(22,35,o3.map Rul.av,0)]) (fun⟨m,o3⟩=>(setOf t).length - m) ⟨0,o⟩ ?_ ?_
  ·exact⟨Nat.zero_le _,by omega,by simp⟩
  rintro⟨m,o3⟩ ⟨hm,ol3,ho3⟩
  by_cases hml:m < (setOf t).length
  ·obtain⟨v,hv⟩:∃v,(setOf t)[m]? =some v:=⟨(setOf t)[m]'hml,by simp⟩
   (repeat' ((conv=>whnf);first|with_reducible refine Idx.got hv rfl ?_|refine gA ?_|(refine gN ?_ ?_<;>intro h hw)|(refine gB ?_ ?_<;>intro h)|(refine gI ?_;intro x hx)|(refine gJ ?_;intro j x hj hx)|refine gP ?_|refine gV ?_|refine gC (iW v) ?_|intro _))<;>try (conv=>whnf)
   ·refine nw ⟨m+1,o3++[Kc i v]⟩ ?_ ?_
    ·(repeat' ((conv=>whnf)<;>(first|exact trivial|exact rfl|with_reducible refine And.intro ?_ ?_)))<;>((conv=>whnf)<;>((simp [Kc];try rfl)))
    exact⟨by omega,by simp;omega,(kE ho3 hv).1 (by assumption)⟩
   ·refine nx ⟨m+1,o3⟩ ?_
    exact⟨by omega,by omega,(kE ho3 hv).2 (by assumption)⟩
   ·exfalso;omega
  (repeat' ((conv=>whnf);first|(exfalso;omega)|refine gA ?_|(refine gN ?_ ?_<;>intro h hw)|(refine gB ?_ ?_<;>intro h)|(refine gI ?_;intro x hx)|(refine gJ ?_;intro j x hj hx)|refine gP ?_|refine gV ?_|refine gC (Hq p b hp) ?_|intro _))<;>try (conv=>whnf)
  have YQ:o3=o++(AZ b x).map (Kc i):=by rw [ho3,List.take_of_length_le (by omega),AZ,ht]
  have Zc:o3.length≤20+50*i+14:=by omega
  clear ho3 ol3 hml hm
  refine aC [2,3,6,9,49,50,51,88,89] [2,3] [22] ?_
  (conv=>whnf)
  refine aB.go ((Nat)×(List Rul)) (fun⟨n,o4⟩=>(n≤(intervals p b).length)∧(o4.length≤34+50*i+n)∧(o4=o3++((intervals p b).take n).map (Ox i))) (fun⟨n,o4⟩=>[(90,.data (i64 n)),(5,.own 22 0)]) (fun _=>[]) (fun⟨n,o4⟩=>[(22,35,o4.map Rul.av,0)]) (fun⟨n,o4⟩=>(intervals p b).length - n) ⟨0,o3⟩ ?_ ?_
  ·exact⟨Nat.zero_le _,by omega,by simp⟩
  rintro⟨n,o4⟩ ⟨hn,ol4,ho4⟩
  by_cases hnl:n < (intervals p b).length
  ·obtain⟨q2,hq2⟩:∃q2,(intervals p b)[n]? =some q2:=⟨(intervals p b)[n]'hnl,by simp⟩
   obtain⟨u,v,rfl,_⟩:=Jb (List.mem_of_getElem? hq2)
   (repeat' ((conv=>whnf);first|with_reducible refine Idx.got hq2 rfl ?_|with_reducible refine Idx.got (l:=[u,v]) (k:=0) rfl rfl ?_|with_reducible refine Idx.got (l:=[u,v]) (k:=1) rfl rfl ?_|refine gA ?_|(refine gN ?_ ?_<;>intro h hw)|(refine gB ?_ ?_<;>intro h)|(refine gI ?_;intro x hx)|(refine gJ ?_;intro j x hj hx)|refine gP ?_|refine gV ?_|intro _))<;>try (conv=>whnf)
   ·refine nw ⟨n+1,o4++[Ox i [u,v]]⟩ ?_ ?_
    ·(repeat' ((conv=>whnf)<;>(first|exact trivial|exact rfl|with_reducible refine And.intro ?_ ?_)))<;>((conv=>whnf)<;>((simp [Ox];try rfl)))
    exact⟨by omega,by simp;omega,by rw [ho4,OA _ hq2,List.append_assoc]⟩
   all_goals (first|(exfalso;omega)|exact trivial)
  ·(repeat' ((conv=>whnf);first|(exfalso;omega)|refine gA ?_|(refine gN ?_ ?_<;>intro h hw)|(refine gB ?_ ?_<;>intro h)|(refine gI ?_;intro x hx)|(refine gJ ?_;intro j x hj hx)|refine gP ?_|refine gV ?_|intro _))<;>try (conv=>whnf)
   refine nx ⟨i+1,o4⟩ ?_
   refine⟨by omega,by omega,?_⟩
   rw [ho4,YQ,ho,List.take_of_length_le (by omega),Qj,OB hx];simp
end Go.Proofs.YtjfnojijdggfhaaGreat.Abs
