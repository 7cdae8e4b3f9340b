/- Contracts: intervals; the rules that may refute. -/
import Derived.Test.YtglikcnmgnlejaaGreatC27
import Derived.Test.YtglikcnmgnlejaaGreatC20a
set_option linter.all false
set_option maxRecDepth 20000
set_option maxHeartbeats 0
namespace Go.Proofs.YtglikcnmgnlejaaGreat.Abs
open Go.Proofs
def Jp:Bool→Int→List Int→Int
 |_,n,[]=>n
 |b,n,x::r=>Jp false (if b=true∨x > n then x else n) r
def yt (a:aC) (ms:List Int):Int:=Jp true 0 ((chosen a ms).map Mode.dur)
theorem Ma {c:Int}:∀(l:List Int) (b:Bool) (n:Int),(0≤n∧n≤c)→(∀x∈l,0≤x∧x≤c)→0≤Jp b n l∧Jp b n l≤c
 |[],_,n,h,_=>h
 |x::r,b,n,h,h'=>by
  rw [Jp]
  refine Ma r false _ ?_ fun y hy=>h' y (by simp [hy])
  split
  ·exact h' x (by simp)
  ·exact h
theorem ES {a:aC} {r s:Int} (h:dJ a r s=true) (ms:List Int):0≤yt a ms∧yt a ms≤12:=by
 refine Ma _ _ _ (by omega) fun x hx=>?_
 obtain⟨m,hm,rfl⟩:=List.mem_map.1 hx
 have:=(qy h (xQ hm)).1
 omega
theorem GI (a:aC) (ms:List Int):Con 405 [.d a.av,.d (ints ms)] (.d (i64 (yt a ms))):=by
 refine con Tryz.func405 rfl rfl Tryz.call405 rfl fun hwf=>?_
 simp only [ARs.wf,AR.wf,AV.wf,AV.wfs,lm,lim] at hwf
 have hl:=KR a ms
 (repeat' ((conv=>whnf);first|refine gA ?_|(refine gB ?_ ?_<;>intro h)|(refine gI ?_;intro x hx)|(refine gJ ?_;intro j x hj hx)|refine gV ?_|refine gC (uV a ms) ?_|intro _))<;>try (conv=>whnf)
 refine au [10,11] [] [] ?_
 (conv=>whnf)
 refine ak.go ((Nat)×(Int)) (fun⟨k,n⟩=>(k≤(chosen a ms).length)∧(Jp (decide ((k:Int)=0)) n (((chosen a ms).drop k).map Mode.dur)=yt a ms)) (fun⟨k,n⟩=>[(12,.data (i64 k)),(5,.data (i64 n))]) (fun _=>[]) (fun _=>[]) (fun⟨k,n⟩=>(chosen a ms).length - k) ⟨0,0⟩ ?_ ?_
 ·exact⟨by omega,rfl⟩
 rintro⟨k,n⟩ ⟨hk,hi⟩
 (repeat' ((conv=>whnf);first|refine gA ?_|(refine gB ?_ ?_<;>intro h)|(refine gI ?_;intro x hx)|(refine gJ ?_;intro j x hj hx)|refine gV ?_|intro _))<;>try (conv=>whnf)
 ·refine nx ⟨k+1,x.dur⟩ ?_
  rw [ay hx,List.map_cons,Jp,if_pos (.inl (by simp [h]))] at hi
  exact⟨by omega,by rw [decide_eq_false (show ¬((k+1:Nat):Int)=0 by omega)];exact hi⟩
 ·refine nx ⟨k+1,x.dur⟩ ?_
  rw [ay hx,List.map_cons,Jp,if_pos (.inr h)] at hi
  exact⟨by omega,by rw [decide_eq_false (show ¬((k+1:Nat):Int)=0 by omega)];exact hi⟩
 ·refine nx ⟨k+1,n⟩ ?_
  rw [ay hx,List.map_cons,Jp,if_neg (by rw [decide_eq_true_eq];omega)] at hi
  exact⟨by omega,by rw [decide_eq_false (show ¬((k+1:Nat):Int)=0 by omega)];exact hi⟩
 ·refine⟨?_,rfl,trivial⟩
  rw [← hi,aG (by assumption)];rfl
theorem GJ (a:aC) (ms:List Int):Con 395 [.d a.av,.d (ints ms)] (.d (i64 (yt a ms))):=by
 refine con Tryz.func395 rfl rfl Tryz.call395 rfl fun hwf=>?_
 simp only [ARs.wf,AR.wf,AV.wf,AV.wfs,lm,lim] at hwf
 (repeat' ((conv=>whnf);first|refine gA ?_|(refine gB ?_ ?_<;>intro h)|(refine gI ?_;intro x hx)|(refine gJ ?_;intro j x hj hx)|refine gV ?_|intro _))<;>try (conv=>whnf)
 refine au [1,10,11] [] [] ?_
 (conv=>whnf)
 refine ak.go ((Nat)×(Int)×(Bool)) (fun⟨k,n,b⟩=>(k≤a.modes.length)∧(Jp (!b) n ((bO ms (a.modes.drop k) k).map Mode.dur)=yt a ms)) (fun⟨k,n,b⟩=>[(12,.data (i64 k)),(5,.data (i64 n)),(6,.data (.bool b))]) (fun _=>[]) (fun _=>[]) (fun⟨k,n,b⟩=>a.modes.length - k) ⟨0,0,false⟩ ?_ ?_
 ·exact⟨by omega,rfl⟩
 rintro⟨k,n,b⟩ ⟨hk,hi⟩
 (repeat' ((conv=>whnf);first|refine gA ?_|(refine gB ?_ ?_<;>intro h)|(refine gI ?_;intro x hx)|(refine gJ ?_;intro j x hj hx)|refine gV ?_|refine gC (fC ms _) ?_|intro _))<;>try (conv=>whnf)
 all_goals first
  |(refine⟨?_,rfl,trivial⟩;rw [← hi,aG (by assumption)];rfl)
  |(refine nx ⟨k+1,x.dur,true⟩ ?_
    refine⟨by omega,?_⟩
    rw [ay hx,bO,if_pos (by assumption),List.map_cons,Jp,if_pos (by simp [*])] at hi
    exact hi)
  |(refine nx ⟨k+1,n,b⟩ ?_
    refine⟨by omega,?_⟩
    rw [ay hx,bO,if_neg (Bool.eq_false_iff.1 (by assumption))] at hi
    exact hi)
  |(refine nx ⟨k+1,n,b⟩ ?_
    refine⟨by omega,?_⟩
    rw [ay hx,bO,if_pos (by assumption),List.map_cons,Jp,if_neg (by simp [*])] at hi
    rw [← hi];simp [*])
def Ri (p:Proj) (b:Dom) (i:Nat):Int:=b.hi.getD i 0+yt (nI p i) (b.modes.getD i [])
def jh (p:Proj) (b:Dom) (k:Nat):List Int:=(List.range k).map (Ri p b)
abbrev aag (p:Proj) (b:Dom):List Int:=setOf (jh p b p.acts.length)
def GK (x y:Int):Bool:=dw x&&dw y&&decide (x < y)
def Uf (p:Proj) (b:Dom) (x:Int):List (List Int):=((aag p b).filter (GK x)).map fun y=>[x,y]
def intervals (p:Proj) (b:Dom):List (List Int):=if usable p b=true then (setOf b.lo).flatMap (Uf p b) else []
theorem Pj {p:Proj} {b:Dom} {k:Nat} {a:aC} {x y:Int} {m:List Int} (g:eD p b k a x y m):Ri p b k=y+yt a m:=by
 simp [Ri,nI,List.getD_eq_getElem?_getD,g.act,g.hi,g.modes]
theorem Mc (p:Proj) (b:Dom) (k:Nat):jh p b (k+1)=jh p b k++[Ri p b k]:=by simp [jh,List.range_succ]
theorem GL (p:Proj) (b:Dom) (k:Nat):(jh p b k).length=k:=by simp [jh]
theorem Pk {α β:Type} {f:α→List β} {l:List α} {k:Nat} {x:α} {o:List β} (ho:o=(l.take k).flatMap f) (h:l[k]? =some x):o++f x=(l.take (k+1)).flatMap f:=by
 obtain⟨hk,rfl⟩:=List.getElem?_eq_some_iff.1 h
 rw [ho,List.take_succ_eq_append_getElem hk,List.flatMap_append];simp
theorem eP {α β:Type} {f:α→Bool} {g:α→β} {l:List α} {k:Nat} {x:α} {q o:List β} (ho:o=q++((l.take k).filter f).map g) (h:l[k]? =some x):
  (f x=true→o++[g x]=q++((l.take (k+1)).filter f).map g)∧(f x=false→o=q++((l.take (k+1)).filter f).map g):=by
 obtain⟨hk,rfl⟩:=List.getElem?_eq_some_iff.1 h
 rw [List.take_succ_eq_append_getElem hk,List.filter_append]
 exact⟨fun hf=>by rw [ho];simp [hf],fun hf=>by rw [ho];simp [hf]⟩
theorem jR {p:Proj} {b:Dom} (h:usable p b=true):aQ p b=true∧jf b=false:=by simpa [usable] using h
theorem qC (p:Proj) (b:Dom) (hp:p.fine):Con 268 [.d p.av,.d b.av] (.d (.bool (usable p b))):=by
 refine con Tryz.func268 rfl rfl Tryz.call268 rfl fun hwf=>?_
 (repeat' ((conv=>whnf);first|refine gA ?_|(refine gB ?_ ?_<;>intro h)|refine gC (bX p b hp) ?_|refine gC (dY b) ?_|intro _))<;>try (conv=>whnf)
 all_goals refine⟨?_,rfl,trivial⟩
 all_goals simp [usable, *]
theorem Md (p:Proj) (b:Dom) (hp:p.fine):Con 363 [.d p.av,.d b.av] (.d (.sl ((intervals p b).map ints))):=by
 refine con Tryz.func363 rfl rfl Tryz.call363 rfl fun hwf=>?_
 simp only [ARs.wf,AR.wf,AV.wf,AV.wfs,lm,lim] at hwf
 cases hu:usable p b with
 |false=>
  (repeat' ((conv=>whnf);first|refine gA ?_|(refine gN ?_ ?_<;>intro h hw)|(refine gB ?_ ?_<;>intro h)|(refine gI ?_;intro x hx)|(refine gJ ?_;intro j x hj hx)|refine gP ?_|refine gV ?_|refine gC (jZ p b hp) ?_|intro _))<;>try (conv=>whnf)
  refine⟨?_,rfl,trivial⟩;rw [intervals,if_neg (by rw [hu];exact Bool.false_ne_true)];rfl
 |true=>
  rw [intervals,if_pos hu]
  have hf:=(jR hu).1
  obtain⟨hpo,l1,l2,l3,_⟩:=bB hf
  have hna:=(eu hpo).Jj
  have hel:=GL p b
  have hsl:=fV b.lo
  have hse:(setOf (jh p b p.acts.length)).length≤p.acts.length:=by have:=fV (jh p b p.acts.length);rw [hel] at this;exact this
  (repeat' ((conv=>whnf);first|refine gA ?_|(refine gN ?_ ?_<;>intro h hw)|(refine gB ?_ ?_<;>intro h)|(refine gI ?_;intro x hx)|(refine gJ ?_;intro j x hj hx)|refine gP ?_|refine gV ?_|refine gC (jZ p b hp) ?_|intro _))<;>try (conv=>whnf)
  refine au [3,6,20,21] [3] [17] ?_
  (conv=>whnf)
  refine ak.go ((Nat)) (fun k=>(k≤p.acts.length)) (fun k=>[(22,.data (i64 k)),(5,.own 17 0)]) (fun _=>[]) (fun k=>[(17,3,(jh p b k).map i64,0)]) (fun k=>p.acts.length - k) (0) ?_ ?_
  ·exact Nat.zero_le _
  rintro k hk
  have hek:=hel k
  by_cases hlt:k < p.acts.length
  ·obtain⟨a,lo,up,m,g⟩:=fF hf hlt
   have h1:=g.hib
   have h2:=ES g.aok m
   (repeat' ((conv=>whnf);first|with_reducible refine Idx.got g.act rfl ?_|with_reducible refine Idx.got g.hi rfl ?_|with_reducible refine Idx.got g.modes rfl ?_|refine gA ?_|(refine gN ?_ ?_<;>intro h hw)|(refine gB ?_ ?_<;>intro h)|(refine gI ?_;intro x hx)|(refine gJ ?_;intro j x hj hx)|refine gP ?_|refine gV ?_|refine gC (GI a m) ?_|intro _))<;>try (conv=>whnf)
   ·refine nw (k+1) ?_ ?_
    ·(repeat' ((conv=>whnf)<;>(first|exact trivial|exact rfl|with_reducible refine And.intro ?_ ?_)))<;>((conv=>whnf)<;>((rw [Mc,Pj g];simp)))
    exact (by omega:k+1≤p.acts.length)
   ·exfalso;omega
  (repeat' ((conv=>whnf);first|(exfalso;omega)|refine gA ?_|(refine gN ?_ ?_<;>intro h hw)|(refine gB ?_ ?_<;>intro h)|(refine gI ?_;intro x hx)|(refine gJ ?_;intro j x hj hx)|refine gP ?_|refine gV ?_|refine gC (qA b.lo) ?_|intro _))<;>try (conv=>whnf)
  rw [show k=p.acts.length by omega]
  refine au [46,47] [] [18] ?_
  (conv=>whnf)
  refine ak.go ((Nat)×(List (List Int))) (fun⟨i,o⟩=>(i≤(setOf b.lo).length)∧(o.length≤6*i)∧(o=((setOf b.lo).take i).flatMap (Uf p b))) (fun⟨i,o⟩=>[(48,.data (i64 i)),(5,.data (ints (jh p b p.acts.length))),(6,.own 18 0)]) (fun _=>[]) (fun⟨i,o⟩=>[(18,25,o.map ints,0)]) (fun⟨i,o⟩=>(setOf b.lo).length - i) ⟨0,[]⟩ ?_ ?_
  ·exact⟨Nat.zero_le _,by simp,by simp⟩
  rintro⟨i,o⟩ ⟨hi,ol,ho⟩
  by_cases hil:i < (setOf b.lo).length
  rotate_left
  ·(repeat' ((conv=>whnf);first|(exfalso;omega)|refine gA ?_|(refine gN ?_ ?_<;>intro h hw)|(refine gB ?_ ?_<;>intro h)|(refine gI ?_;intro x hx)|(refine gJ ?_;intro j x hj hx)|refine gP ?_|refine gV ?_|intro _))<;>try (conv=>whnf)
   refine⟨?_,rfl,trivial⟩
   rw [ho,List.take_of_length_le (by omega)]
  obtain⟨x0,hx0⟩:∃x0,(setOf b.lo)[i]? =some x0:=⟨(setOf b.lo)[i]'hil,by simp⟩
  (repeat' ((conv=>whnf);first|with_reducible refine Idx.got hx0 rfl ?_|refine gA ?_|(refine gN ?_ ?_<;>intro h hw)|(refine gB ?_ ?_<;>intro h)|(refine gI ?_;intro x hx)|(refine gJ ?_;intro j x hj hx)|refine gP ?_|refine gV ?_|refine gC (qA (jh p b p.acts.length)) ?_|intro _))<;>try (conv=>whnf)
  rotate_left
  ·exact trivial
  refine au [5,10,46,47,48,53,54] [] [18] ?_
  (conv=>whnf)
  refine ak.go ((Nat)×(List (List Int))) (fun⟨j,o2⟩=>(j≤(setOf (jh p b p.acts.length)).length)∧(o2.length≤6*i+j)∧(o2=o++(((setOf (jh p b p.acts.length)).take j).filter (GK x0)).map (fun y=>[x0,y]))) (fun⟨j,o2⟩=>[(55,.data (i64 j)),(6,.own 18 0)]) (fun _=>[]) (fun⟨j,o2⟩=>[(18,25,o2.map ints,0)]) (fun⟨j,o2⟩=>(setOf (jh p b p.acts.length)).length - j) ⟨0,o⟩ ?_ ?_
  ·exact⟨Nat.zero_le _,by omega,by simp⟩
  rintro⟨j,o2⟩ ⟨hj,ol2,ho2⟩
  by_cases hjl:j < (setOf (jh p b p.acts.length)).length
  ·obtain⟨y0,hy0⟩:∃y0,(setOf (jh p b p.acts.length))[j]? =some y0:=⟨(setOf (jh p b p.acts.length))[j]'hjl,by simp⟩
   (repeat' ((conv=>whnf);first|with_reducible refine Idx.got hy0 rfl ?_|refine gA ?_|(refine gN ?_ ?_<;>intro h hw)|(refine gB ?_ ?_<;>intro h)|(refine gI ?_;intro x hx)|(refine gJ ?_;intro j x hj hx)|refine gP ?_|refine gV ?_|refine gC (lV _) ?_|intro _))<;>try (conv=>whnf)
   ·refine nw ⟨j+1,o2++[[x0,y0]]⟩ ?_ ?_
    ·(repeat' ((conv=>whnf)<;>(first|exact trivial|exact rfl|with_reducible refine And.intro ?_ ?_)))<;>((conv=>whnf)<;>(simp))
    exact⟨by omega,by simp;omega,(eP ho2 hy0).1 (by simp [GK, *])⟩
   ·refine nx ⟨j+1,o2⟩ ?_
    exact⟨by omega,by omega,(eP ho2 hy0).2 (by simp [GK, *])⟩
   ·refine nx ⟨j+1,o2⟩ ?_
    exact⟨by omega,by omega,(eP ho2 hy0).2 (by simp [GK, *])⟩
   ·refine nx ⟨j+1,o2⟩ ?_
    exact⟨by omega,by omega,(eP ho2 hy0).2 (by simp [GK, *])⟩
   ·exfalso;omega
  ·(repeat' ((conv=>whnf);first|(exfalso;omega)|refine gA ?_|(refine gN ?_ ?_<;>intro h hw)|(refine gB ?_ ?_<;>intro h)|(refine gI ?_;intro x hx)|(refine gJ ?_;intro j x hj hx)|refine gP ?_|refine gV ?_|intro _))<;>try (conv=>whnf)
   refine nx ⟨i+1,o2⟩ ?_
   refine⟨by omega,by omega,?_⟩
   rw [ho2,List.take_of_length_le (by omega)]
   exact Pk ho hx0
theorem Me (p:Proj) (b:Dom) (hp:p.fine):Con 348 [.d p.av,.d b.av] (.d (.sl ((intervals p b).map ints))):=by
 refine con Tryz.func348 rfl rfl Tryz.call348 rfl fun hwf=>?_
 simp only [ARs.wf,AR.wf,AV.wf,AV.wfs,lm,lim] at hwf
 cases hu:usable p b with
 |false=>
  (repeat' ((conv=>whnf);first|refine gA ?_|(refine gN ?_ ?_<;>intro h hw)|(refine gB ?_ ?_<;>intro h)|(refine gI ?_;intro x hx)|(refine gJ ?_;intro j x hj hx)|refine gP ?_|refine gV ?_|refine gC (qC p b hp) ?_|intro _))<;>try (conv=>whnf)
  refine⟨?_,rfl,trivial⟩;rw [intervals,if_neg (by rw [hu];exact Bool.false_ne_true)];rfl
 |true=>
  rw [intervals,if_pos hu]
  have hf:=(jR hu).1
  obtain⟨hpo,l1,l2,l3,_⟩:=bB hf
  have hna:=(eu hpo).Jj
  have hel:=GL p b
  have hsl:=fV b.lo
  have hse:(setOf (jh p b p.acts.length)).length≤p.acts.length:=by have:=fV (jh p b p.acts.length);rw [hel] at this;exact this
  (repeat' ((conv=>whnf);first|refine gA ?_|(refine gN ?_ ?_<;>intro h hw)|(refine gB ?_ ?_<;>intro h)|(refine gI ?_;intro x hx)|(refine gJ ?_;intro j x hj hx)|refine gP ?_|refine gV ?_|refine gC (qC p b hp) ?_|intro _))<;>try (conv=>whnf)
  refine au [2,3,5,20] [2,3] [] ?_
  (conv=>whnf)
  refine ak.go ((Nat)) (fun k=>(k≤p.acts.length)) (fun k=>[(21,.data (i64 k)),(6,.data (ints (setOf (jh p b k))))]) (fun _=>[]) (fun _=>[]) (fun k=>p.acts.length - k) (0) ?_ ?_
  ·exact Nat.zero_le _
  rintro k hk
  have hek:=hel k
  have hsk:=fV (jh p b k)
  by_cases hlt:k < p.acts.length
  ·obtain⟨a,lo,up,m,g⟩:=fF hf hlt
   have h1:=g.hib
   have h2:=ES g.aok m
   have hs1:(setOf (jh p b k)).length < lim:=by unfold lim;omega
   (repeat' ((conv=>whnf);first|with_reducible refine Idx.got g.act rfl ?_|with_reducible refine Idx.got g.hi rfl ?_|with_reducible refine Idx.got g.modes rfl ?_|refine gA ?_|(refine gN ?_ ?_<;>intro h hw)|(refine gB ?_ ?_<;>intro h)|(refine gI ?_;intro x hx)|(refine gJ ?_;intro j x hj hx)|refine gP ?_|refine gV ?_|refine gC (GJ a m) ?_|refine gC (Ae (setOf (jh p b k)) (up+yt a m) hs1) ?_|intro _))<;>try (conv=>whnf)
   ·refine nw (k+1) ?_ ?_
    ·(repeat' ((conv=>whnf)<;>(first|exact trivial|exact rfl|with_reducible refine And.intro ?_ ?_)))<;>((conv=>whnf)<;>((rw [Mc,Pj g,yj])))
    exact (by omega:k+1≤p.acts.length)
   ·exfalso;omega
  (repeat' ((conv=>whnf);first|(exfalso;omega)|refine gA ?_|(refine gN ?_ ?_<;>intro h hw)|(refine gB ?_ ?_<;>intro h)|(refine gI ?_;intro x hx)|(refine gJ ?_;intro j x hj hx)|refine gP ?_|refine gV ?_|refine gC (qw b.lo) ?_|intro _))<;>try (conv=>whnf)
  rw [show k=p.acts.length by omega]
  refine au [6,46,47] [] [12] ?_
  (conv=>whnf)
  refine ak.go ((Nat)×(List (List Int))) (fun⟨i,o⟩=>(i≤(setOf b.lo).length)∧(o.length≤6*i)∧(o=((setOf b.lo).take i).flatMap (Uf p b))) (fun⟨i,o⟩=>[(48,.data (i64 i)),(5,.own 12 0)]) (fun _=>[]) (fun⟨i,o⟩=>[(12,25,o.map ints,0)]) (fun⟨i,o⟩=>(setOf b.lo).length - i) ⟨0,[]⟩ ?_ ?_
  ·exact⟨Nat.zero_le _,by simp,by simp⟩
  rintro⟨i,o⟩ ⟨hi,ol,ho⟩
  by_cases hil:i < (setOf b.lo).length
  rotate_left
  ·(repeat' ((conv=>whnf);first|(exfalso;omega)|refine gA ?_|(refine gN ?_ ?_<;>intro h hw)|(refine gB ?_ ?_<;>intro h)|(refine gI ?_;intro x hx)|(refine gJ ?_;intro j x hj hx)|refine gP ?_|refine gV ?_|intro _))<;>try (conv=>whnf)
   refine⟨?_,rfl,trivial⟩
   rw [ho,List.take_of_length_le (by omega)]
  obtain⟨x0,hx0⟩:∃x0,(setOf b.lo)[i]? =some x0:=⟨(setOf b.lo)[i]'hil,by simp⟩
  (repeat' ((conv=>whnf);first|with_reducible refine Idx.got hx0 rfl ?_|refine gA ?_|(refine gN ?_ ?_<;>intro h hw)|(refine gB ?_ ?_<;>intro h)|(refine gI ?_;intro x hx)|(refine gJ ?_;intro j x hj hx)|refine gP ?_|refine gV ?_|intro _))<;>try (conv=>whnf)
  rotate_left
  ·exact trivial
  refine au [6,9,46,47,48,52,53] [] [12] ?_
  (conv=>whnf)
  refine ak.go ((Nat)×(List (List Int))) (fun⟨j,o2⟩=>(j≤(setOf (jh p b p.acts.length)).length)∧(o2.length≤6*i+j)∧(o2=o++(((setOf (jh p b p.acts.length)).take j).filter (GK x0)).map (fun y=>[x0,y]))) (fun⟨j,o2⟩=>[(54,.data (i64 j)),(5,.own 12 0)]) (fun _=>[]) (fun⟨j,o2⟩=>[(12,25,o2.map ints,0)]) (fun⟨j,o2⟩=>(setOf (jh p b p.acts.length)).length - j) ⟨0,o⟩ ?_ ?_
  ·exact⟨Nat.zero_le _,by omega,by simp⟩
  rintro⟨j,o2⟩ ⟨hj,ol2,ho2⟩
  by_cases hjl:j < (setOf (jh p b p.acts.length)).length
  ·obtain⟨y0,hy0⟩:∃y0,(setOf (jh p b p.acts.length))[j]? =some y0:=⟨(setOf (jh p b p.acts.length))[j]'hjl,by simp⟩
   (repeat' ((conv=>whnf);first|with_reducible refine Idx.got hy0 rfl ?_|refine gA ?_|(refine gN ?_ ?_<;>intro h hw)|(refine gB ?_ ?_<;>intro h)|(refine gI ?_;intro x hx)|(refine gJ ?_;intro j x hj hx)|refine gP ?_|refine gV ?_|refine gC (cB _ _ _) ?_|intro _))<;>try (conv=>whnf)
   ·refine nw ⟨j+1,o2++[[x0,y0]]⟩ ?_ ?_
    ·(repeat' ((conv=>whnf)<;>(first|exact trivial|exact rfl|with_reducible refine And.intro ?_ ?_)))<;>((conv=>whnf)<;>(simp))
    exact⟨by omega,by simp;omega,(eP ho2 hy0).1 (by simp [GK,dw, *])⟩
   ·refine nx ⟨j+1,o2⟩ ?_
    exact⟨by omega,by omega,(eP ho2 hy0).2 (by simp [GK,dw, *])⟩
   ·refine nx ⟨j+1,o2⟩ ?_
    exact⟨by omega,by omega,(eP ho2 hy0).2 (by simp [GK,dw, *])⟩
   ·refine nx ⟨j+1,o2⟩ ?_
    exact⟨by omega,by omega,(eP ho2 hy0).2 (by simp [GK,dw, *])⟩
   ·exfalso;omega
  ·(repeat' ((conv=>whnf);first|(exfalso;omega)|refine gA ?_|(refine gN ?_ ?_<;>intro h hw)|(refine gB ?_ ?_<;>intro h)|(refine gI ?_;intro x hx)|(refine gJ ?_;intro j x hj hx)|refine gP ?_|refine gV ?_|intro _))<;>try (conv=>whnf)
   refine nx ⟨i+1,o2⟩ ?_
   refine⟨by omega,by omega,?_⟩
   rw [ho2,List.take_of_length_le (by omega)]
   exact Pk ho hx0
end Go.Proofs.YtglikcnmgnlejaaGreat.Abs
namespace Go.Proofs.YtglikcnmgnlejaaGreat.Abs
open Go.Proofs
def iO (p:Proj):List Rul:=(List.range p.links.length).map pJ++(List.range p.acts.length).map endRule++(List.range p.aO.length).map mV
def qD (p:Proj):List Rul:=(List.range p.aU.length).flatMap fun r=>(List.range p.acts.length).flatMap (gG p r)
def yu (b:Dom) (x:aL):List Int:=(setOf (b.hi++x.steps.map Step.at')).filter dw
def Ag (i:Nat) (t:Int):Rul:=⟨3,i,t,0⟩
def ET (i:Nat) (q:List Int):Rul:=⟨4,i,q.getD 0 0,q.getD 1 0⟩
def rD (p:Proj) (b:Dom) (i:Nat):List Rul:=
 match p.aU[i]? with
 |some x=>(yu b x).map (Ag i)++(intervals p b).map (ET i)
 |none=>[]
def gH (p:Proj) (b:Dom):List Rul:=iO p++(List.range p.aU.length).flatMap (rD p b)++qD p
def aX (p:Proj) (b:Dom):List Rul:=if usable p b=true then gH p b else []
def jS (r:Rul):Bool:=decide (r.kind=1)||decide (r.kind=2)||decide (r.kind=6)
def mD (r:Rul):Bool:=decide (r.kind=5)
theorem Mf {α β:Type} {f:β→Bool} {g:α→β} {l:List α} (h:∀x,f (g x)=true):(l.map g).filter f=l.map g:=List.filter_eq_self.2 fun y hy=>by
 obtain⟨x,_,rfl⟩:=List.mem_map.1 hy;exact h x
theorem GN {α β:Type} {f:β→Bool} {g:α→β} {l:List α} (h:∀x,f (g x)=false):(l.map g).filter f= []:=List.filter_eq_nil_iff.2 fun y hy=>by
 obtain⟨x,_,rfl⟩:=List.mem_map.1 hy;rw [h x];exact Bool.false_ne_true
theorem Rj {p:Proj} {r b:Nat} {y:Rul} (h:y∈gG p r b):y.kind=5:=by
 unfold gG at h
 split at h
 ·obtain⟨j,_,rfl⟩:=List.mem_map.1 h;rfl
 ·simp at h
theorem Mg {n:Nat} {y:Rul} (h:y∈(List.range n).flatMap uO):y.kind=3:=by
 obtain⟨r,_,h⟩:=List.mem_flatMap.1 h
 obtain⟨j,_,rfl⟩:=List.mem_map.1 h;rfl
theorem Mh {p:Proj} {y:Rul} (h:y∈qD p):y.kind=5:=by
 obtain⟨r,_,h⟩:=List.mem_flatMap.1 h
 obtain⟨b,_,h⟩:=List.mem_flatMap.1 h
 exact Rj h
theorem Ug (p:Proj):(lN p).filter jS=iO p:=by
 have h1:((List.range p.aU.length).flatMap uO).filter jS= []:=List.filter_eq_nil_iff.2 fun y hy=>by rw [jS,Mg hy];decide
 have h2:((List.range p.aU.length).flatMap fun r=>(List.range p.acts.length).flatMap (gG p r)).filter jS= []:=List.filter_eq_nil_iff.2 fun y hy=>by rw [jS,Mh hy];decide
 simp only [lN,List.filter_append,h1,h2,iO]
 rw [Mf (fun _=>rfl),Mf (fun _=>rfl),Mf (fun _=>rfl)]
 simp
theorem Wd (p:Proj):(lN p).filter mD=qD p:=by
 have h1:((List.range p.aU.length).flatMap uO).filter mD= []:=List.filter_eq_nil_iff.2 fun y hy=>by rw [mD,Mg hy];decide
 have h2:((List.range p.aU.length).flatMap fun r=>(List.range p.acts.length).flatMap (gG p r)).filter mD=qD p:=List.filter_eq_self.2 fun y hy=>by rw [mD,Mh hy];rfl
 simp only [lN,List.filter_append,h1,h2]
 rw [GN (fun _=>rfl),GN (fun _=>rfl),GN (fun _=>rfl)]
 simp
theorem oC {α β:Type} {f:α→List β} {c:Nat}:∀{l:List α},(∀x∈l,(f x).length≤c)→(l.flatMap f).length≤c*l.length
 |[],_=>by simp
 |x::l,h=>by
  have h1:=h x (by simp)
  have h2:=oC (l:=l) fun y hy=>h y (by simp [hy])
  simp only [List.flatMap_cons,List.length_append,List.length_cons,Nat.mul_add];omega
theorem GQ {p:Proj} (ho:bE p=true):(iO p).length≤20:=by
 have:=oq ho
 simp only [iO,List.length_append,List.length_map,List.length_range];omega
theorem Uh (p:Proj) (r b:Nat):(gG p r b).length≤p.acts.length:=by
 unfold gG;split
 ·simp
 ·simp
theorem Mi {p:Proj} (ho:bE p=true):(qD p).length≤108:=by
 have hs:=oq ho
 have h2:∀r,((List.range p.acts.length).flatMap (gG p r)).length≤36:=fun r=>by
  have:=oC (f:=gG p r) (c:=6) (l:=List.range p.acts.length) fun b _=>Nat.le_trans (Uh p r b) hs.1.2
  simp only [List.length_range] at this;omega
 have:=oC (f:=fun r=>(List.range p.acts.length).flatMap (gG p r)) (c:=36) (l:=List.range p.aU.length) fun r _=>h2 r
 simp only [List.length_range] at this
 show ((List.range p.aU.length).flatMap fun r=>(List.range p.acts.length).flatMap (gG p r)).length≤108
 omega
theorem vR {p:Proj} {b:Dom} (hf:aQ p b=true):(intervals p b).length≤36:=by
 unfold intervals
 split
 ·obtain⟨hpo,l1,l2,l3,_⟩:=bB hf
  have hna:=(eu hpo).Jj
  have h1:=fV b.lo
  have h2:=fV (jh p b p.acts.length)
  rw [GL] at h2
  have h3:=oC (f:=Uf p b) (c:=6) (l:=setOf b.lo) fun x _=>by
   have:=List.length_filter_le (GK x) (setOf (jh p b p.acts.length))
   simp only [Uf,aag,List.length_map];omega
  omega
 ·simp
theorem vS {p:Proj} {b:Dom} {q:List Int} (h:q∈intervals p b):∃x y,q= [x,y]∧dw x=true∧dw y=true∧x < y:=by
 unfold intervals at h
 split at h
 ·obtain⟨x,_,h⟩:=List.mem_flatMap.1 h
  obtain⟨y,hy,rfl⟩:=List.mem_map.1 h
  have:=(List.mem_filter.1 hy).2
  simp only [GK,Bool.and_eq_true,decide_eq_true_eq] at this
  exact⟨x,y,rfl,this.1.1,this.1.2,this.2⟩
 ·simp at h
theorem GR {p:Proj} (ho:bE p=true) {k:Nat} {x:aL} (h:p.aU[k]? =some x):x.steps.length≤8:=by
 have:=(eu ho).res k x h
 simp only [qc,Bool.and_eq_true,jH,within_iff] at this
 omega
theorem Yt {p:Proj} (ho:bE p=true):(lN p).length≤400:=by
 have hs:=oq ho
 have h1:=oC (f:=uO) (c:=61) (l:=List.range p.aU.length) fun r _=>by simp [uO]
 have h2:((List.range p.aU.length).flatMap fun r=>(List.range p.acts.length).flatMap (gG p r)).length≤108:=Mi ho
 simp only [List.length_range] at h1
 simp only [lN,List.length_append,List.length_map,List.length_range];omega
theorem IK {α:Type} (f:α→Bool) {l:List α} {k:Nat} {x:α} (h:l[k]? =some x):(l.take (k+1)).filter f=(l.take k).filter f++if f x=true then [x] else []:=by
 obtain⟨hk,rfl⟩:=List.getElem?_eq_some_iff.1 h
 rw [List.take_succ_eq_append_getElem hk,List.filter_append]
 congr 1
 simp [List.filter_cons]
theorem Yu {t u:List Int} (x:Int) (h:setOf t=setOf u):setOf (t++[x])=setOf (u++[x]):=by rw [← yj,h,yj]
theorem EU {α β:Type} (f:α→β) {l:List α} {k:Nat} {x:α} (h:l[k]? =some x):(l.take (k+1)).map f=(l.take k).map f++[f x]:=(eX f h).symm
theorem Ah {p:Proj} {b:Dom} {i:Nat} {x:aL} (h:p.aU[i]? =some x):rD p b i=(yu b x).map (Ag i)++(intervals p b).map (ET i):=by simp only [rD,h]
theorem Mj {α:Type} (f:Nat→List α) (n:Nat):(List.range (n+1)).flatMap f=(List.range n).flatMap f++f n:=by rw [List.range_succ,List.flatMap_append];simp
theorem nG (p:Proj) (b:Dom) (hp:p.fine):Con 291 [.d p.av,.d b.av] (.d (.sl ((aX p b).map Rul.av))):=by
 refine con Tryz.func291 rfl rfl Tryz.call291 rfl fun hwf=>?_
 simp only [ARs.wf,AR.wf,AV.wf,AV.wfs,lm,lim] at hwf
 cases hu:usable p b with
 |false=>
  (repeat' ((conv=>whnf);first|refine gA ?_|(refine gN ?_ ?_<;>intro h hw)|(refine gB ?_ ?_<;>intro h)|(refine gI ?_;intro x hx)|(refine gJ ?_;intro j x hj hx)|refine gP ?_|refine gV ?_|refine gC (jZ p b hp) ?_|intro _))<;>try (conv=>whnf)
  refine⟨?_,rfl,trivial⟩;rw [aX,if_neg (by rw [hu];exact Bool.false_ne_true)];rfl
 |true=>
  rw [aX,if_pos hu]
  have hf:=(jR hu).1
  obtain⟨hpo,l1,l2,l3,_⟩:=bB hf
  have hna:=(eu hpo).Jj
  obtain⟨_,hr3,_,_⟩:=oq hpo
  have hpl:=GQ hpo
  have hpp:=Mi hpo
  have hiv:=vR hf
  (repeat' ((conv=>whnf);first|refine gA ?_|(refine gN ?_ ?_<;>intro h hw)|(refine gB ?_ ?_<;>intro h)|(refine gI ?_;intro x hx)|(refine gJ ?_;intro j x hj hx)|refine gP ?_|refine gV ?_|refine gC (jZ p b hp) ?_|refine gC (VZ p hpo) ?_|intro _))<;>try (conv=>whnf)
  refine au [2,3,25,26] [2,3] [22,23] ?_
  (conv=>whnf)
  refine ak.go ((Nat)×(List Rul)×(List Rul)) (fun⟨k,o,q⟩=>(k≤(lN p).length)∧(o.length≤k)∧(q.length≤k)∧(o=((lN p).take k).filter jS)∧(q=((lN p).take k).filter mD)) (fun⟨k,o,q⟩=>[(27,.data (i64 k)),(5,.own 22 0),(6,.own 23 0)]) (fun _=>[]) (fun⟨k,o,q⟩=>[(22,201,o.map Rul.av,0),(23,201,q.map Rul.av,0)]) (fun⟨k,o,q⟩=>(lN p).length - k) ⟨0,[],[]⟩ ?_ ?_
  ·exact⟨Nat.zero_le _,Nat.le_refl _,Nat.le_refl _,rfl,rfl⟩
  rintro⟨k,o,q⟩ ⟨hk,ol,ql,ho,hq⟩
  by_cases hlt:k < (lN p).length
  ·obtain⟨r,hr⟩:∃r,(lN p)[k]? =some r:=⟨(lN p)[k]'hlt,by simp⟩
   have hrl:=Yt hpo
   have hsp:=IK jS hr
   have hsq:=IK mD hr
   (repeat' ((conv=>whnf);first|with_reducible refine Idx.got hr rfl ?_|refine gA ?_|(refine gN ?_ ?_<;>intro h hw)|(refine gB ?_ ?_<;>intro h)|(refine gI ?_;intro x hx)|(refine gJ ?_;intro j x hj hx)|refine gP ?_|refine gV ?_|intro _))<;>try (conv=>whnf)
   ·refine nw ⟨k+1,o++[r],q⟩ ?_ ?_
    ·(repeat' ((conv=>whnf)<;>(first|exact trivial|exact rfl|with_reducible refine And.intro ?_ ?_)))<;>((conv=>whnf)<;>(simp))
    have e1:jS r=true:=by simp [jS, *]
    have e2:mD r=false:=by simp [mD, *]
    exact⟨by omega,by simp;omega,by omega,by rw [hsp,e1,ho];rfl,by rw [hsq,e2,hq];simp⟩
   ·refine nw ⟨k+1,o++[r],q⟩ ?_ ?_
    ·(repeat' ((conv=>whnf)<;>(first|exact trivial|exact rfl|with_reducible refine And.intro ?_ ?_)))<;>((conv=>whnf)<;>(simp))
    have e1:jS r=true:=by simp [jS, *]
    have e2:mD r=false:=by simp [mD, *]
    exact⟨by omega,by simp;omega,by omega,by rw [hsp,e1,ho];rfl,by rw [hsq,e2,hq];simp⟩
   ·refine nw ⟨k+1,o++[r],q⟩ ?_ ?_
    ·(repeat' ((conv=>whnf)<;>(first|exact trivial|exact rfl|with_reducible refine And.intro ?_ ?_)))<;>((conv=>whnf)<;>(simp))
    have e1:jS r=true:=by simp [jS, *]
    have e2:mD r=false:=by simp [mD, *]
    exact⟨by omega,by simp;omega,by omega,by rw [hsp,e1,ho];rfl,by rw [hsq,e2,hq];simp⟩
   ·refine nw ⟨k+1,o,q++[r]⟩ ?_ ?_
    ·(repeat' ((conv=>whnf)<;>(first|exact trivial|exact rfl|with_reducible refine And.intro ?_ ?_)))<;>((conv=>whnf)<;>(simp))
    have e1:jS r=false:=by simp [jS, *]
    have e2:mD r=true:=by simp [mD, *]
    exact⟨by omega,by omega,by simp;omega,by rw [hsp,e1,ho];simp,by rw [hsq,e2,hq];rfl⟩
   ·refine nx ⟨k+1,o,q⟩ ?_
    have e1:jS r=false:=by simp [jS, *]
    have e2:mD r=false:=by simp [mD, *]
    exact⟨by omega,by omega,by omega,by rw [hsp,e1,ho];simp,by rw [hsq,e2,hq];simp⟩
   ·exfalso;omega
  (repeat' ((conv=>whnf);first|(exfalso;omega)|refine gA ?_|(refine gN ?_ ?_<;>intro h hw)|(refine gB ?_ ?_<;>intro h)|(refine gI ?_;intro x hx)|(refine gJ ?_;intro j x hj hx)|refine gP ?_|refine gV ?_|intro _))<;>try (conv=>whnf)
  have ho':o=iO p:=by rw [ho,List.take_of_length_le (by omega),Ug]
  have hq':q=qD p:=by rw [hq,List.take_of_length_le (by omega),Wd]
  clear ho hq ol ql hlt hk
  subst ho' hq'
  refine au [2,3,6,49,50] [2,3] [22] ?_
  (conv=>whnf)
  refine ak.go ((Nat)×(List Rul)) (fun⟨i,o⟩=>(i≤p.aU.length)∧(o.length≤20+50*i)∧(o=iO p++(List.range i).flatMap (rD p b))) (fun⟨i,o⟩=>[(51,.data (i64 i)),(5,.own 22 0)]) (fun _=>[]) (fun⟨i,o⟩=>[(22,201,o.map Rul.av,0)]) (fun⟨i,o⟩=>p.aU.length - i) ⟨0,iO p⟩ ?_ ?_
  ·exact⟨Nat.zero_le _,by omega,by simp⟩
  rintro⟨i,o⟩ ⟨hi,ol,ho⟩
  by_cases hil:i < p.aU.length
  rotate_left
  ·(repeat' ((conv=>whnf);first|(exfalso;omega)|refine gA ?_|(refine gN ?_ ?_<;>intro h hw)|(refine gB ?_ ?_<;>intro h)|(refine gI ?_;intro x hx)|(refine gJ ?_;intro j x hj hx)|refine gP ?_|refine gV ?_|intro _))<;>try (conv=>whnf)
   refine⟨?_,rfl,trivial⟩
   rw [gH,ho,show i=p.aU.length by omega];simp
  obtain⟨x,hx⟩:∃x,p.aU[i]? =some x:=⟨p.aU[i]'hil,by simp⟩
  have hst:=GR hpo hx
  (repeat' ((conv=>whnf);first|with_reducible refine Idx.got hx rfl ?_|refine gA ?_|(refine gN ?_ ?_<;>intro h hw)|(refine gB ?_ ?_<;>intro h)|(refine gI ?_;intro x hx)|(refine gJ ?_;intro j x hj hx)|refine gP ?_|refine gV ?_|intro _))<;>try (conv=>whnf)
  rotate_left
  ·exact trivial
  refine au [2,3,5,6,9,49,50,51,59,60] [2,3] [] ?_
  (conv=>whnf)
  refine ak.go ((Nat)×(List Int)) (fun⟨j,t⟩=>(j≤x.steps.length)∧(t.length≤6+j)∧(setOf t=setOf (b.hi++(x.steps.take j).map Step.at'))) (fun⟨j,t⟩=>[(61,.data (i64 j)),(11,.data (ints t))]) (fun _=>[]) (fun _=>[]) (fun⟨j,t⟩=>x.steps.length - j) ⟨0,b.hi⟩ ?_ ?_
  ·exact⟨Nat.zero_le _,by omega,by simp⟩
  rintro⟨j,t⟩ ⟨hj,tl,ht⟩
  by_cases hjl:j < x.steps.length
  ·obtain⟨s,hs⟩:∃s,x.steps[j]? =some s:=⟨x.steps[j]'hjl,by simp⟩
   have hs1:t.length < lim:=by unfold lim;omega
   have hs2:=fV (t++[s.at'])
   simp only [List.length_append,List.length_cons,List.length_nil] at hs2
   (repeat' ((conv=>whnf);first|with_reducible refine Idx.got hs rfl ?_|refine gA ?_|(refine gN ?_ ?_<;>intro h hw)|(refine gB ?_ ?_<;>intro h)|(refine gI ?_;intro x hx)|(refine gJ ?_;intro j x hj hx)|refine gP ?_|refine gV ?_|refine gC (Uc t s.at' hs1) ?_|intro _))<;>try (conv=>whnf)
   ·refine nx ⟨j+1,setOf (t++[s.at'])⟩ ?_
    refine⟨by omega,by omega,?_⟩
    rw [Ub,Yu _ ht,EU Step.at' hs,List.append_assoc]
   ·exfalso;omega
  (repeat' ((conv=>whnf);first|(exfalso;omega)|refine gA ?_|(refine gN ?_ ?_<;>intro h hw)|(refine gB ?_ ?_<;>intro h)|(refine gI ?_;intro x hx)|(refine gJ ?_;intro j x hj hx)|refine gP ?_|refine gV ?_|refine gC (qA t) ?_|intro _))<;>try (conv=>whnf)
  rw [List.take_of_length_le (by omega)] at ht
  have htl:=fV t
  refine au [2,3,6,9,49,50,51,71,72] [2,3] [22] ?_
  (conv=>whnf)
  refine ak.go ((Nat)×(List Rul)) (fun⟨m,o3⟩=>(m≤(setOf t).length)∧(o3.length≤20+50*i+m)∧(o3=o++(((setOf t).take m).filter dw).map (Ag i))) (fun⟨m,o3⟩=>[(73,.data (i64 m)),(5,.own 22 0)]) (fun _=>[]) (fun⟨m,o3⟩=>[(22,201,o3.map Rul.av,0)]) (fun⟨m,o3⟩=>(setOf t).length - m) ⟨0,o⟩ ?_ ?_
  ·exact⟨Nat.zero_le _,by omega,by simp⟩
  rintro⟨m,o3⟩ ⟨hm,ol3,ho3⟩
  by_cases hml:m < (setOf t).length
  ·obtain⟨v,hv⟩:∃v,(setOf t)[m]? =some v:=⟨(setOf t)[m]'hml,by simp⟩
   (repeat' ((conv=>whnf);first|with_reducible refine Idx.got hv rfl ?_|refine gA ?_|(refine gN ?_ ?_<;>intro h hw)|(refine gB ?_ ?_<;>intro h)|(refine gI ?_;intro x hx)|(refine gJ ?_;intro j x hj hx)|refine gP ?_|refine gV ?_|refine gC (lV v) ?_|intro _))<;>try (conv=>whnf)
   ·refine nw ⟨m+1,o3++[Ag i v]⟩ ?_ ?_
    ·(repeat' ((conv=>whnf)<;>(first|exact trivial|exact rfl|with_reducible refine And.intro ?_ ?_)))<;>((conv=>whnf)<;>((simp [Ag];try rfl)))
    exact⟨by omega,by simp;omega,(eP ho3 hv).1 (by assumption)⟩
   ·refine nx ⟨m+1,o3⟩ ?_
    exact⟨by omega,by omega,(eP ho3 hv).2 (by assumption)⟩
   ·exfalso;omega
  (repeat' ((conv=>whnf);first|(exfalso;omega)|refine gA ?_|(refine gN ?_ ?_<;>intro h hw)|(refine gB ?_ ?_<;>intro h)|(refine gI ?_;intro x hx)|(refine gJ ?_;intro j x hj hx)|refine gP ?_|refine gV ?_|refine gC (Md p b hp) ?_|intro _))<;>try (conv=>whnf)
  have acZ:o3=o++(yu b x).map (Ag i):=by rw [ho3,List.take_of_length_le (by omega),yu,ht]
  have agb:o3.length≤20+50*i+14:=by omega
  clear ho3 ol3 hml hm
  refine au [2,3,6,9,49,50,51,88,89] [2,3] [22] ?_
  (conv=>whnf)
  refine ak.go ((Nat)×(List Rul)) (fun⟨n,o4⟩=>(n≤(intervals p b).length)∧(o4.length≤34+50*i+n)∧(o4=o3++((intervals p b).take n).map (ET i))) (fun⟨n,o4⟩=>[(90,.data (i64 n)),(5,.own 22 0)]) (fun _=>[]) (fun⟨n,o4⟩=>[(22,201,o4.map Rul.av,0)]) (fun⟨n,o4⟩=>(intervals p b).length - n) ⟨0,o3⟩ ?_ ?_
  ·exact⟨Nat.zero_le _,by omega,by simp⟩
  rintro⟨n,o4⟩ ⟨hn,ol4,ho4⟩
  by_cases hnl:n < (intervals p b).length
  ·obtain⟨q2,hq2⟩:∃q2,(intervals p b)[n]? =some q2:=⟨(intervals p b)[n]'hnl,by simp⟩
   obtain⟨u,v,rfl,_⟩:=vS (List.mem_of_getElem? hq2)
   (repeat' ((conv=>whnf);first|with_reducible refine Idx.got hq2 rfl ?_|with_reducible refine Idx.got (l:=[u,v]) (k:=0) rfl rfl ?_|with_reducible refine Idx.got (l:=[u,v]) (k:=1) rfl rfl ?_|refine gA ?_|(refine gN ?_ ?_<;>intro h hw)|(refine gB ?_ ?_<;>intro h)|(refine gI ?_;intro x hx)|(refine gJ ?_;intro j x hj hx)|refine gP ?_|refine gV ?_|intro _))<;>try (conv=>whnf)
   ·refine nw ⟨n+1,o4++[ET i [u,v]]⟩ ?_ ?_
    ·(repeat' ((conv=>whnf)<;>(first|exact trivial|exact rfl|with_reducible refine And.intro ?_ ?_)))<;>((conv=>whnf)<;>((simp [ET];try rfl)))
    exact⟨by omega,by simp;omega,by rw [ho4,EU _ hq2,List.append_assoc]⟩
   all_goals (first|(exfalso;omega)|exact trivial)
  ·(repeat' ((conv=>whnf);first|(exfalso;omega)|refine gA ?_|(refine gN ?_ ?_<;>intro h hw)|(refine gB ?_ ?_<;>intro h)|(refine gI ?_;intro x hx)|(refine gJ ?_;intro j x hj hx)|refine gP ?_|refine gV ?_|intro _))<;>try (conv=>whnf)
   refine nx ⟨i+1,o4⟩ ?_
   refine⟨by omega,by omega,?_⟩
   rw [ho4,acZ,ho,List.take_of_length_le (by omega),Mj,Ah hx];simp
theorem IL (p:Proj) (b:Dom) (hp:p.fine) (hu:usable p b=true):Con 269 [.d p.av,.d b.av] (.d (.sl ((gH p b).map Rul.av))):=by
 refine con Tryz.func269 rfl rfl Tryz.call269 rfl fun hwf=>?_
 simp only [ARs.wf,AR.wf,AV.wf,AV.wfs,lm,lim] at hwf
 have hf:=(jR hu).1
 obtain⟨hpo,l1,l2,l3,_⟩:=bB hf
 have hna:=(eu hpo).Jj
 obtain⟨_,hr3,hs2,hl12⟩:=oq hpo
 have hpl:=GQ hpo
 have hiv:=vR hf
 (repeat' ((conv=>whnf);first|refine gA ?_|(refine gN ?_ ?_<;>intro h hw)|(refine gB ?_ ?_<;>intro h)|(refine gI ?_;intro x hx)|(refine gJ ?_;intro j x hj hx)|refine gP ?_|refine gV ?_|intro _))<;>try (conv=>whnf)
 refine au [2,3,25] [2,3] [22] ?_
 (conv=>whnf)
 refine ak.go ((Nat)×(List Rul)) (fun⟨k,o⟩=>(k≤p.links.length)∧(o.length≤k)∧(o=(List.range k).map pJ)) (fun⟨k,o⟩=>[(26,.data (i64 k)),(5,.own 22 0)]) (fun _=>[]) (fun⟨k,o⟩=>[(22,201,o.map Rul.av,0)]) (fun⟨k,o⟩=>p.links.length - k) ⟨0,[]⟩ ?_ ?_
 ·exact⟨Nat.zero_le _,by simp,rfl⟩
 rintro⟨k,o⟩ ⟨hk,ol,ho⟩
 by_cases hlt:k < p.links.length
 ·(repeat' ((conv=>whnf);first|refine gA ?_|(refine gN ?_ ?_<;>intro h hw)|(refine gB ?_ ?_<;>intro h)|(refine gI ?_;intro x hx)|(refine gJ ?_;intro j x hj hx)|refine gP ?_|refine gV ?_|intro _))<;>try (conv=>whnf)
  ·refine nw ⟨k+1,o++[pJ k]⟩ ?_ ?_
   ·(repeat' ((conv=>whnf)<;>(first|exact trivial|exact rfl|with_reducible refine And.intro ?_ ?_)))<;>((conv=>whnf)<;>((simp [pJ]<;>rfl)))
   exact⟨by omega,by simp;omega,by rw [ho,List.range_succ,List.map_append];rfl⟩
  ·exfalso;omega
 (repeat' ((conv=>whnf);first|(exfalso;omega)|refine gA ?_|(refine gN ?_ ?_<;>intro h hw)|(refine gB ?_ ?_<;>intro h)|(refine gI ?_;intro x hx)|(refine gJ ?_;intro j x hj hx)|refine gP ?_|refine gV ?_|intro _))<;>try (conv=>whnf)
 rw [show k=p.links.length by omega] at ho ol
 clear hlt hk
 refine au [2,3,37] [2,3] [22] ?_
 (conv=>whnf)
 refine ak.go ((Nat)×(List Rul)) (fun⟨k2,o2⟩=>(k2≤p.acts.length)∧(o2.length≤12+k2)∧(o2=o++(List.range k2).map endRule)) (fun⟨k2,o2⟩=>[(38,.data (i64 k2)),(5,.own 22 0)]) (fun _=>[]) (fun⟨k2,o2⟩=>[(22,201,o2.map Rul.av,0)]) (fun⟨k2,o2⟩=>p.acts.length - k2) ⟨0,o⟩ ?_ ?_
 ·exact⟨Nat.zero_le _,by omega,by simp⟩
 rintro⟨k2,o2⟩ ⟨hk2,ol2,ho2⟩
 by_cases hlt:k2 < p.acts.length
 ·(repeat' ((conv=>whnf);first|refine gA ?_|(refine gN ?_ ?_<;>intro h hw)|(refine gB ?_ ?_<;>intro h)|(refine gI ?_;intro x hx)|(refine gJ ?_;intro j x hj hx)|refine gP ?_|refine gV ?_|intro _))<;>try (conv=>whnf)
  ·refine nw ⟨k2+1,o2++[endRule k2]⟩ ?_ ?_
   ·(repeat' ((conv=>whnf)<;>(first|exact trivial|exact rfl|with_reducible refine And.intro ?_ ?_)))<;>((conv=>whnf)<;>((simp [endRule]<;>rfl)))
   exact⟨by omega,by simp;omega,by rw [ho2,List.range_succ,List.map_append,List.append_assoc];rfl⟩
  ·exfalso;omega
 (repeat' ((conv=>whnf);first|(exfalso;omega)|refine gA ?_|(refine gN ?_ ?_<;>intro h hw)|(refine gB ?_ ?_<;>intro h)|(refine gI ?_;intro x hx)|(refine gJ ?_;intro j x hj hx)|refine gP ?_|refine gV ?_|intro _))<;>try (conv=>whnf)
 rw [show k2=p.acts.length by omega] at ho2 ol2
 clear hlt hk2
 refine au [2,3,49] [2,3] [22] ?_
 (conv=>whnf)
 refine ak.go ((Nat)×(List Rul)) (fun⟨k3,o3⟩=>(k3≤p.aO.length)∧(o3.length≤18+k3)∧(o3=o2++(List.range k3).map mV)) (fun⟨k3,o3⟩=>[(50,.data (i64 k3)),(5,.own 22 0)]) (fun _=>[]) (fun⟨k3,o3⟩=>[(22,201,o3.map Rul.av,0)]) (fun⟨k3,o3⟩=>p.aO.length - k3) ⟨0,o2⟩ ?_ ?_
 ·exact⟨Nat.zero_le _,by omega,by simp⟩
 rintro⟨k3,o3⟩ ⟨hk3,ol3,ho3⟩
 by_cases hlt:k3 < p.aO.length
 ·(repeat' ((conv=>whnf);first|refine gA ?_|(refine gN ?_ ?_<;>intro h hw)|(refine gB ?_ ?_<;>intro h)|(refine gI ?_;intro x hx)|(refine gJ ?_;intro j x hj hx)|refine gP ?_|refine gV ?_|intro _))<;>try (conv=>whnf)
  ·refine nw ⟨k3+1,o3++[mV k3]⟩ ?_ ?_
   ·(repeat' ((conv=>whnf)<;>(first|exact trivial|exact rfl|with_reducible refine And.intro ?_ ?_)))<;>((conv=>whnf)<;>((simp [mV]<;>rfl)))
   exact⟨by omega,by simp;omega,by rw [ho3,List.range_succ,List.map_append,List.append_assoc];rfl⟩
  ·exfalso;omega
 (repeat' ((conv=>whnf);first|(exfalso;omega)|refine gA ?_|(refine gN ?_ ?_<;>intro h hw)|(refine gB ?_ ?_<;>intro h)|(refine gI ?_;intro x hx)|(refine gJ ?_;intro j x hj hx)|refine gP ?_|refine gV ?_|refine gC (qw b.hi) ?_|refine gC (Me p b hp) ?_|intro _))<;>try (conv=>whnf)
 have h0:o3=iO p:=by rw [ho3,ho2,ho,show k3=p.aO.length by omega];rfl
 clear ho ho2 ho3 ol ol2 ol3 hlt hk3
 subst h0
 have hsh:=fV b.hi
 refine au [2,9,10,67] [2] [22] ?_
 (conv=>whnf)
 refine ak.go ((Nat)×(List Rul)) (fun⟨i,o⟩=>(i≤p.aU.length)∧(o.length≤20+50*i)∧(o=iO p++(List.range i).flatMap (rD p b))) (fun⟨i,o⟩=>[(68,.data (i64 i)),(5,.own 22 0)]) (fun _=>[]) (fun⟨i,o⟩=>[(22,201,o.map Rul.av,0)]) (fun⟨i,o⟩=>p.aU.length - i) ⟨0,iO p⟩ ?_ ?_
 ·exact⟨Nat.zero_le _,by omega,by simp⟩
 rintro⟨i,o⟩ ⟨hi,ol,ho⟩
 by_cases hil:i < p.aU.length
 ·obtain⟨x,hx⟩:∃x,p.aU[i]? =some x:=⟨p.aU[i]'hil,by simp⟩
  have hst:=GR hpo hx
  (repeat' ((conv=>whnf);first|with_reducible refine Idx.got hx rfl ?_|refine gA ?_|(refine gN ?_ ?_<;>intro h hw)|(refine gB ?_ ?_<;>intro h)|(refine gI ?_;intro x hx)|(refine gJ ?_;intro j x hj hx)|refine gP ?_|refine gV ?_|intro _))<;>try (conv=>whnf)
  rotate_left
  ·exfalso;omega
  refine au [2,5,9,10,11,67,68,77,78] [2] [] ?_
  (conv=>whnf)
  refine ak.mk ((Nat)) (fun j=>(j≤x.steps.length)) (fun j=>[(79,.data (i64 j)),(12,.data (ints (setOf (b.hi++(x.steps.take j).map Step.at'))))]) (fun _=>[]) (fun _=>[]) (fun j=>x.steps.length - j) (0) ?_ ?_ ?_
  rotate_left
  ·(repeat' ((conv=>whnf)<;>(first|exact trivial|exact rfl|with_reducible refine And.intro ?_ ?_)))<;>((conv=>whnf)<;>(simp))
  rotate_left
  ·exact Nat.zero_le _
  rintro j hj
  have hsj:=fV (b.hi++(x.steps.take j).map Step.at')
  simp only [List.length_append,List.length_map,List.length_take] at hsj
  by_cases hjl:j < x.steps.length
  ·obtain⟨s,hs⟩:∃s,x.steps[j]? =some s:=⟨x.steps[j]'hjl,by simp⟩
   have hs1:(setOf (b.hi++(x.steps.take j).map Step.at')).length < lim:=by unfold lim;omega
   (repeat' ((conv=>whnf);first|with_reducible refine Idx.got hs rfl ?_|with_reducible refine Idx.got hx rfl ?_|refine gA ?_|(refine gN ?_ ?_<;>intro h hw)|(refine gB ?_ ?_<;>intro h)|(refine gI ?_;intro x hx)|(refine gJ ?_;intro j x hj hx)|refine gP ?_|refine gV ?_|refine gC (Ae _ s.at' hs1) ?_|intro _))<;>try (conv=>whnf)
   ·refine nw (j+1) ?_ ?_
    ·(repeat' ((conv=>whnf)<;>(first|exact trivial|exact rfl|with_reducible refine And.intro ?_ ?_)))<;>((conv=>whnf)<;>((rw [yj,EU Step.at' hs,List.append_assoc])))
    exact (by omega:j+1≤x.steps.length)
   ·exfalso;omega
  (repeat' ((conv=>whnf);first|(exfalso;omega)|refine gA ?_|(refine gN ?_ ?_<;>intro h hw)|(refine gB ?_ ?_<;>intro h)|(refine gI ?_;intro x hx)|(refine gJ ?_;intro j x hj hx)|refine gP ?_|refine gV ?_|intro _))<;>try (conv=>whnf)
  rw [List.take_of_length_le (by omega)] at hsj
  rw [List.take_of_length_le (by omega)]
  obtain⟨t,ht⟩:∃t,t=setOf (b.hi++x.steps.map Step.at'):=⟨_,rfl⟩
  rw [← ht] at hsj
  rw [← ht]
  refine au [2,9,10,11,67,68,88,89] [2] [22] ?_
  (conv=>whnf)
  refine ak.go ((Nat)×(List Rul)) (fun⟨m,o3⟩=>(m≤t.length)∧(o3.length≤20+50*i+m)∧(o3=o++((t.take m).filter dw).map (Ag i))) (fun⟨m,o3⟩=>[(90,.data (i64 m)),(5,.own 22 0)]) (fun _=>[]) (fun⟨m,o3⟩=>[(22,201,o3.map Rul.av,0)]) (fun⟨m,o3⟩=>t.length - m) ⟨0,o⟩ ?_ ?_
  ·exact⟨Nat.zero_le _,by omega,by simp⟩
  rintro⟨m,o3⟩ ⟨hm,ol3,ho3⟩
  by_cases hml:m < t.length
  ·obtain⟨v,hv⟩:∃v,t[m]? =some v:=⟨t[m]'hml,by simp⟩
   (repeat' ((conv=>whnf);first|with_reducible refine Idx.got hv rfl ?_|refine gA ?_|(refine gN ?_ ?_<;>intro h hw)|(refine gB ?_ ?_<;>intro h)|(refine gI ?_;intro x hx)|(refine gJ ?_;intro j x hj hx)|refine gP ?_|refine gV ?_|refine gC (cB v _ _) ?_|intro _))<;>try (conv=>whnf)
   ·refine nw ⟨m+1,o3++[Ag i v]⟩ ?_ ?_
    ·(repeat' ((conv=>whnf)<;>(first|exact trivial|exact rfl|with_reducible refine And.intro ?_ ?_)))<;>((conv=>whnf)<;>((simp [Ag];try rfl)))
    exact⟨by omega,by simp;omega,(eP ho3 hv).1 (by assumption)⟩
   ·refine nx ⟨m+1,o3⟩ ?_
    exact⟨by omega,by omega,(eP ho3 hv).2 (by assumption)⟩
   ·exfalso;omega
  (repeat' ((conv=>whnf);first|(exfalso;omega)|refine gA ?_|(refine gN ?_ ?_<;>intro h hw)|(refine gB ?_ ?_<;>intro h)|(refine gI ?_;intro x hx)|(refine gJ ?_;intro j x hj hx)|refine gP ?_|refine gV ?_|intro _))<;>try (conv=>whnf)
  have acZ:o3=o++(yu b x).map (Ag i):=by rw [ho3,List.take_of_length_le (by omega),yu,ht]
  have agb:o3.length≤20+50*i+14:=by omega
  clear ho3 ol3 hml hm
  refine au [2,9,10,11,67,68,103,104] [2] [22] ?_
  (conv=>whnf)
  refine ak.go ((Nat)×(List Rul)) (fun⟨n,o4⟩=>(n≤(intervals p b).length)∧(o4.length≤34+50*i+n)∧(o4=o3++((intervals p b).take n).map (ET i))) (fun⟨n,o4⟩=>[(105,.data (i64 n)),(5,.own 22 0)]) (fun _=>[]) (fun⟨n,o4⟩=>[(22,201,o4.map Rul.av,0)]) (fun⟨n,o4⟩=>(intervals p b).length - n) ⟨0,o3⟩ ?_ ?_
  ·exact⟨Nat.zero_le _,by omega,by simp⟩
  rintro⟨n,o4⟩ ⟨hn,ol4,ho4⟩
  by_cases hnl:n < (intervals p b).length
  ·obtain⟨q2,hq2⟩:∃q2,(intervals p b)[n]? =some q2:=⟨(intervals p b)[n]'hnl,by simp⟩
   obtain⟨u,v,rfl,_⟩:=vS (List.mem_of_getElem? hq2)
   (repeat' ((conv=>whnf);first|with_reducible refine Idx.got hq2 rfl ?_|with_reducible refine Idx.got (l:=[u,v]) (k:=0) rfl rfl ?_|with_reducible refine Idx.got (l:=[u,v]) (k:=1) rfl rfl ?_|refine gA ?_|(refine gN ?_ ?_<;>intro h hw)|(refine gB ?_ ?_<;>intro h)|(refine gI ?_;intro x hx)|(refine gJ ?_;intro j x hj hx)|refine gP ?_|refine gV ?_|intro _))<;>try (conv=>whnf)
   ·refine nw ⟨n+1,o4++[ET i [u,v]]⟩ ?_ ?_
    ·(repeat' ((conv=>whnf)<;>(first|exact trivial|exact rfl|with_reducible refine And.intro ?_ ?_)))<;>((conv=>whnf)<;>((simp [ET];try rfl)))
    exact⟨by omega,by simp;omega,by rw [ho4,EU _ hq2,List.append_assoc]⟩
   all_goals (first|(exfalso;omega)|exact trivial)
  ·(repeat' ((conv=>whnf);first|(exfalso;omega)|refine gA ?_|(refine gN ?_ ?_<;>intro h hw)|(refine gB ?_ ?_<;>intro h)|(refine gI ?_;intro x hx)|(refine gJ ?_;intro j x hj hx)|refine gP ?_|refine gV ?_|intro _))<;>try (conv=>whnf)
   refine nx ⟨i+1,o4⟩ ?_
   refine⟨by omega,by omega,?_⟩
   rw [ho4,acZ,ho,List.take_of_length_le (by omega),Mj,Ah hx];simp
 (repeat' ((conv=>whnf);first|(exfalso;omega)|refine gA ?_|(refine gN ?_ ?_<;>intro h hw)|(refine gB ?_ ?_<;>intro h)|(refine gI ?_;intro x hx)|(refine gJ ?_;intro j x hj hx)|refine gP ?_|refine gV ?_|intro _))<;>try (conv=>whnf)
 rw [show i=p.aU.length by omega] at ho ol
 clear hil hi
 refine au [2,124] [2] [22] ?_
 (conv=>whnf)
 refine ak.go ((Nat)×(List Rul)) (fun⟨r5,o5⟩=>(r5≤p.aU.length)∧(o5.length≤201+36*r5)∧(o5=o++(List.range r5).flatMap (fun r=>(List.range p.acts.length).flatMap (gG p r)))) (fun⟨r5,o5⟩=>[(125,.data (i64 r5)),(5,.own 22 0)]) (fun _=>[]) (fun⟨r5,o5⟩=>[(22,201,o5.map Rul.av,0)]) (fun⟨r5,o5⟩=>p.aU.length - r5) ⟨0,o⟩ ?_ ?_
 ·exact⟨by omega,by omega,by simp⟩
 rintro⟨r5,o5⟩ ⟨hk5,ol5,ho5⟩
 by_cases hlt:r5 < p.aU.length
 ·(repeat' ((conv=>whnf);first|(exfalso;omega)|refine gA ?_|(refine gN ?_ ?_<;>intro h hw)|(refine gB ?_ ?_<;>intro h)|(refine gI ?_;intro x hx)|(refine gJ ?_;intro j x hj hx)|refine gP ?_|refine gV ?_|intro _))<;>try (conv=>whnf)
  refine au [2,19,124,125,130] [2] [22] ?_
  (conv=>whnf)
  refine ak.go ((Nat)×(List Rul)) (fun⟨a,o6⟩=>(a≤p.acts.length)∧(o6.length≤201+36*r5+6*a)∧(o6=o5++(List.range a).flatMap (gG p r5))) (fun⟨a,o6⟩=>[(131,.data (i64 a)),(5,.own 22 0)]) (fun _=>[]) (fun⟨a,o6⟩=>[(22,201,o6.map Rul.av,0)]) (fun⟨a,o6⟩=>p.acts.length - a) ⟨0,o5⟩ ?_ ?_
  ·exact⟨by omega,by omega,by simp⟩
  rintro⟨a,o6⟩ ⟨hk6,ol6,ho6⟩
  by_cases aga:a < p.acts.length
  ·(repeat' ((conv=>whnf);first|(exfalso;omega)|refine gA ?_|(refine gN ?_ ?_<;>intro h hw)|(refine gB ?_ ?_<;>intro h)|(refine gI ?_;intro x hx)|(refine gJ ?_;intro j x hj hx)|refine gP ?_|refine gV ?_|intro _))<;>try (conv=>whnf)
   refine au [2,19,20,124,125,130,131] [2] [22] ?_
   (conv=>whnf)
   refine ak.go ((Nat)×(Int)×(List Rul)) (fun⟨j,c,o7⟩=>(c=a+1+j)∧(a+1+j≤p.acts.length)∧(iL p r5=false→j=0)∧(o7.length≤o6.length+j)∧(o7=o6++(List.range j).map (fun i=>qZ r5 a (a+1+i)))) (fun⟨j,c,o7⟩=>[(21,.data (i64 c)),(5,.own 22 0)]) (fun _=>[]) (fun⟨j,c,o7⟩=>[(22,201,o7.map Rul.av,0)]) (fun⟨j,c,o7⟩=>p.acts.length - j) ⟨0,(a:Int)+1,o6⟩ ?_ ?_
   ·exact⟨by omega,by omega,fun _=>rfl,by omega,by simp⟩
   rintro⟨j,c,o7⟩ ⟨hc,hj,hz,ol7,ho7⟩
   cases hm:iL p r5 with
   |true=>
    (repeat' ((conv=>whnf);first|refine gA ?_|(refine gN ?_ ?_<;>intro h hw)|(refine gB ?_ ?_<;>intro h)|(refine gI ?_;intro x hx)|(refine gJ ?_;intro j x hj hx)|refine gP ?_|refine gV ?_|refine gC (tX p _) ?_|intro _))<;>try (conv=>whnf)
    ·refine nw ⟨j+1,c+1,o7++[qZ r5 a (a+1+j)]⟩ ?_ ?_
     ·(repeat' ((conv=>whnf)<;>(first|exact trivial|exact rfl|with_reducible refine And.intro ?_ ?_)))<;>((conv=>whnf)<;>((subst hc;simp [qZ,Int.natCast_add];try rfl)))
     exact⟨by omega,by omega,(fun e=>by cases e),(by simp;omega),by rw [ho7,List.range_succ,List.map_append,List.append_assoc];rfl⟩
    ·refine nx ⟨a+1,o7⟩ ?_
     refine⟨by omega,by omega,?_⟩
     rw [ho7,ho6,List.range_succ,List.flatMap_append,List.append_assoc,show j=p.acts.length - (a+1) by omega]
     simp [gG,hm]
   |false=>
    have hj0:=hz hm
    subst hj0
    (repeat' ((conv=>whnf);first|refine gA ?_|(refine gN ?_ ?_<;>intro h hw)|(refine gB ?_ ?_<;>intro h)|(refine gI ?_;intro x hx)|(refine gJ ?_;intro j x hj hx)|refine gP ?_|refine gV ?_|refine gC (tX p _) ?_|intro _))<;>try (conv=>whnf)
    all_goals
     refine nx ⟨a+1,o7⟩ ?_
     refine⟨by omega,by omega,?_⟩
     rw [ho7,ho6,List.range_succ,List.flatMap_append,List.append_assoc]
     simp [gG,hm]
  ·(repeat' ((conv=>whnf);first|(exfalso;omega)|refine gA ?_|(refine gN ?_ ?_<;>intro h hw)|(refine gB ?_ ?_<;>intro h)|(refine gI ?_;intro x hx)|(refine gJ ?_;intro j x hj hx)|refine gP ?_|refine gV ?_|intro _))<;>try (conv=>whnf)
   refine nx ⟨r5+1,o6⟩ ?_
   refine⟨by omega,by omega,?_⟩
   rw [ho6,ho5,List.range_succ,List.flatMap_append,List.append_assoc,show a=p.acts.length by omega]
   simp
 (repeat' ((conv=>whnf);first|(exfalso;omega)|refine gA ?_|(refine gN ?_ ?_<;>intro h hw)|(refine gB ?_ ?_<;>intro h)|(refine gI ?_;intro x hx)|(refine gJ ?_;intro j x hj hx)|refine gP ?_|refine gV ?_|intro _))<;>try (conv=>whnf)
 refine⟨?_,rfl,trivial⟩
 rw [gH,ho5,ho,show r5=p.aU.length by omega];rfl
end Go.Proofs.YtglikcnmgnlejaaGreat.Abs
