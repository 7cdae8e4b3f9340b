/- Contracts: a domain's literals; refutations are explained. -/
import Derived.Test.YtglikcnmgnlejaaGreatNd
set_option linter.all false
set_option maxRecDepth 20000
set_option maxHeartbeats 0
namespace Go.Proofs.YtglikcnmgnlejaaGreat.Abs
open Go.Proofs
def cO (a b:List Int):List Int:=setOf (a.filter fun n=> !b.contains n)
theorem Bo (k:Int) (b:List Int):Con 470 [.d (i64 k),.ref (ints b)] (.d (.bool (!b.contains k))):=by
 refine con Tryz.func470 rfl rfl Tryz.call470 rfl fun hwf=>?_
 (repeat' ((conv=>whnf);first|refine gA ?_|(refine gB ?_ ?_<;>intro h)|refine gC (uP b k) ?_|intro _))<;>try (conv=>whnf)
 all_goals exact⟨rfl,rfl,trivial⟩
theorem Dm (a b:List Int):Con 443 [.d (ints a),.d (ints b)] (.d (ints (cO a b))):=by
 refine con Tryz.func443 rfl rfl Tryz.call443 rfl fun hwf=>?_
 (repeat' ((conv=>whnf);first|refine gA ?_|(refine gB ?_ ?_<;>intro h)|refine gC (Gl a 470 [ints b] _ fun x=>Bo x b) ?_|refine gC (qA (a.filter fun n=> !b.contains n)) ?_|intro _))<;>try (conv=>whnf)
 all_goals exact⟨rfl,rfl,trivial⟩
theorem Dn (a b:List Int):Con 433 [.d (ints a),.d (ints b)] (.d (ints (cO a b))):=by
 refine con Tryz.func433 rfl rfl Tryz.call433 rfl fun hwf=>?_
 simp only [ARs.wf,AR.wf,AV.wf,AV.wfs,lm,lim] at hwf
 (repeat' ((conv=>whnf);first|refine gA ?_|(refine gB ?_ ?_<;>intro h)|(refine gI ?_;intro x hx)|(refine gJ ?_;intro j x hj hx)|refine gP ?_|refine gV ?_|intro _))<;>try (conv=>whnf)
 refine au [1,9,10] [] [8] ?_
 (conv=>whnf)
 refine ak.go ((Nat)×(List Int)) (fun⟨k,o⟩=>(k≤a.length)∧(o.length≤k)∧(o++(a.drop k).filter (fun n=> !b.contains n)=a.filter (fun n=> !b.contains n))) (fun⟨k,o⟩=>[(11,.data (i64 k)),(5,.own 8 0)]) (fun _=>[]) (fun⟨k,o⟩=>[(8,3,o.map i64,0)]) (fun⟨k,o⟩=>a.length - k) ⟨0,[]⟩ ?_ ?_
 ·exact⟨by omega,by simp,rfl⟩
 rintro⟨k,o⟩ ⟨hk,ho,hi⟩
 (repeat' ((conv=>whnf);first|refine gA ?_|(refine gB ?_ ?_<;>intro h)|(refine gI ?_;intro x hx)|(refine gJ ?_;intro j x hj hx)|refine gP ?_|refine gV ?_|refine gC (fC _ _) ?_|refine gC (qw o) ?_|intro _))<;>try (conv=>whnf)
 ·refine nx ⟨k+1,o⟩ ?_
  exact⟨by omega,by omega,(iW hi hx).2 (by simp only [h];rfl)⟩
 ·refine nw ⟨k+1,o++[x]⟩ ?_ ?_
  ·(repeat' ((conv=>whnf)<;>(first|exact trivial|exact rfl|with_reducible refine And.intro ?_ ?_)))<;>((conv=>whnf)<;>(simp))
  exact⟨by omega,by simp;omega,(iW hi hx).1 (by simp only [h];rfl)⟩
 ·refine⟨?_,rfl,trivial⟩
  rw [cO, ← hi,aG (by assumption)];simp
def wS (k:Nat) (x:Int):List Lit:=if x > 0 then [⟨1,k,x⟩] else []
def wT (d:Int) (k:Nat) (y:Int):List Lit:=if y < d - 1 then [⟨2,k,y⟩] else []
def gu (k:Nat) (l:List Int):List Lit:=l.map fun n=>⟨4,k,n⟩
def wU (p:Proj) (b:Dom) (k:Nat):List Lit:=
 match p.acts[k]?,b.lo[k]?,b.hi[k]?,b.modes[k]? with
 |some a,some x,some y,some m=>wS k x++wT p.dead k y++gu k (cO (aP a.modes.length) m)
 |_,_,_,_=>[]
def dh (p:Proj) (b:Dom):Nat→List Lit
 |0=>[]
 |k+1=>dh p b k++wU p b k
def jk (p:Proj) (b:Dom):List Lit:=if aQ p b=true then dh p b p.acts.length else []
theorem Rh {p:Proj} {b:Dom} {k:Nat} {a:aC} {x y:Int} {m:List Int} (g:eD p b k a x y m):wU p b k=wS k x++wT p.dead k y++gu k (cO (aP a.modes.length) m):=by
 simp only [wU,g.act,g.lo,g.hi,g.modes]
theorem ER (n:Int):(aP n).length≤200:=by
 unfold aP
 split
 ·rename_i h
  have:=within_iff.1 h
  simp;omega
 ·simp
theorem jP (n:Int) (m:List Int):(cO (aP n) m).length≤200:=by
 have h1:=fV ((aP n).filter fun n=> !m.contains n)
 have h2:=List.length_filter_le (fun n=> !m.contains n) (aP n)
 have h3:=ER n
 simp only [cO];omega
theorem NC (p:Proj) (b:Dom) (k:Nat):(wU p b k).length≤202:=by
 unfold wU
 split
 ·rename_i a x y m _ _ _ _
  have:=jP a.modes.length m
  have h1:(wS k x).length≤1:=by unfold wS;split<;>simp
  have h2:(wT p.dead k y).length≤1:=by unfold wT;split<;>simp
  simp only [List.length_append,gu,List.length_map];omega
 ·simp
theorem fU (p:Proj) (b:Dom) (k:Nat):(dh p b k).length≤202*k:=by
 induction k with
 |zero=>simp [dh]
 |succ k ih=>
  have:=NC p b k
  simp only [dh,List.length_append];omega
theorem Ac (p:Proj) (b:Dom):(jk p b).length≤1212:=by
 unfold jk
 split
 ·rename_i h
  have h1:=(eu (bB h).1).Jj
  have h2:=fU p b p.acts.length
  omega
 ·simp
theorem kU {k j:Nat} {l:List Int} {n:Int} {o q:List Lit} (ho:o=q++gu k (l.take j)) (hn:l[j]? =some n):o++[⟨4,(k:Int),n⟩]=q++gu k (l.take (j+1)):=by
 obtain⟨hj,rfl⟩:=List.getElem?_eq_some_iff.1 hn
 rw [ho,List.take_succ_eq_append_getElem hj,gu,gu,List.map_append,List.append_assoc];rfl
theorem mh {k j:Nat} {l:List Int} {o q:List Lit} (ho:o=q++gu k (l.take j)) (hn:l.length≤j):o=q++gu k l:=by
 rw [ho,List.take_of_length_le hn]
theorem mq {k j:Nat} {l:List Int} {o q:List Lit} (ho:o=q++gu k (l.take j)):o.length≤q.length+l.length:=by
 rw [ho];simp only [List.length_append,gu,List.length_map,List.length_take];omega
theorem jQ {p:Proj} {b:Dom} {k:Nat} {a:aC} {x y:Int} {m:List Int} (g:eD p b k a x y m) {u v:List Lit} (hu:wS k x=u) (hv:wT p.dead k y=v):dh p b k++u++v++gu k (cO (aP a.modes.length) m)=dh p b (k+1):=by
 rw [dh,Rh g,hu,hv];simp [List.append_assoc]
theorem Bp (p:Proj) (b:Dom) (hp:p.fine):Con 411 [.d p.av,.d b.av] (.d (lits (jk p b))):=by
 refine con Tryz.func411 rfl rfl Tryz.call411 rfl fun hwf=>?_
 simp only [ARs.wf,AR.wf,AV.wf,AV.wfs,lm,lim] at hwf
 cases hf:aQ p b with
 |false=>
  (repeat' ((conv=>whnf);first|with_reducible refine Br.no hf ?_|with_reducible refine Br.yes hf ?_|refine gA ?_|(refine gB ?_ ?_<;>intro h)|(refine gI ?_;intro x hx)|(refine gJ ?_;intro j x hj hx)|refine gP ?_|refine gV ?_|refine gC (bn p b hp) ?_|intro _))<;>try (conv=>whnf)
  refine⟨?_,rfl,trivial⟩
  rw [jk,if_neg (by rw [hf];exact Bool.false_ne_true)];rfl
 |true=>
  rw [jk,if_pos hf]
  obtain⟨hpo,l1,l2,l3,_⟩:=bB hf
  have hna:=(eu hpo).Jj
  have hde:=(eu hpo).dead
  (repeat' ((conv=>whnf);first|with_reducible refine Br.no hf ?_|with_reducible refine Br.yes hf ?_|refine gA ?_|(refine gB ?_ ?_<;>intro h)|(refine gI ?_;intro x hx)|(refine gJ ?_;intro j x hj hx)|refine gP ?_|refine gV ?_|refine gC (bn p b hp) ?_|intro _))<;>try (conv=>whnf)
  refine au [2,3,16,17] [2,3] [14] ?_
  (conv=>whnf)
  refine ak.go ((Nat)) (fun k=>(k≤p.acts.length)) (fun k=>[(18,.data (i64 k)),(5,.own 14 0)]) (fun _=>[]) (fun k=>[(14,190,(dh p b k).map Lit.av,0)]) (fun k=>p.acts.length - k) (0) ?_ ?_
  ·exact Nat.zero_le _
  rintro k hk
  by_cases hlt:k < p.acts.length
  rotate_left
  ·(repeat' ((conv=>whnf);first|(exfalso;omega)|refine gA ?_|(refine gB ?_ ?_<;>intro h)|(refine gI ?_;intro x hx)|(refine gJ ?_;intro j x hj hx)|refine gP ?_|refine gV ?_|intro _))<;>try (conv=>whnf)
   refine⟨?_,rfl,trivial⟩
   rw [show p.acts.length=k by omega]
  obtain⟨a,lo,up,m,g⟩:=fF hf hlt
  have hxb:=g.lob
  have hyb:=g.hib
  have hq0:=fU p b k
  (repeat' ((conv=>whnf);first|with_reducible refine Idx.got g.act rfl ?_|with_reducible refine Idx.got g.lo rfl ?_|with_reducible refine Idx.got g.hi rfl ?_|with_reducible refine Idx.got g.modes rfl ?_|refine gA ?_|(refine gB ?_ ?_<;>intro h)|(refine gI ?_;intro x hx)|(refine gJ ?_;intro j x hj hx)|refine gP ?_|refine gV ?_|refine gC (qo a) ?_|refine gC (Dm (aP a.modes.length) m) ?_|intro _))<;>try (conv=>whnf)
  ·have hu:wS k lo= [⟨1,k,lo⟩]:=if_pos (by omega)
   have hv:wT p.dead k up= [⟨2,k,up⟩]:=if_pos (by omega)
   have hd:=jP a.modes.length m
   have hq:=fU p b k
   have hnx:=jQ g hu hv
   refine au [2,3,6,16,17,18,65,66] [2,3] [14] ?_
   (conv=>whnf)
   refine ak.mk ((Nat)×(List Lit)) (fun⟨j,o⟩=>(j≤(cO (aP a.modes.length) m).length)∧(o=dh p b k++[⟨1,k,lo⟩]++[⟨2,k,up⟩]++gu k ((cO (aP a.modes.length) m).take j))) (fun⟨j,o⟩=>[(67,.data (i64 j)),(5,.own 14 0)]) (fun _=>[]) (fun⟨j,o⟩=>[(14,190,o.map Lit.av,0)]) (fun⟨j,o⟩=>(cO (aP a.modes.length) m).length - j) ⟨0,dh p b k++[⟨1,k,lo⟩]++[⟨2,k,up⟩]⟩ ?_ ?_ ?_
   rotate_left
   ·(repeat' ((conv=>whnf)<;>(first|exact trivial|exact rfl|with_reducible refine And.intro ?_ ?_)))<;>((conv=>whnf)<;>(simp [Lit.av]))
   rotate_left
   ·exact⟨Nat.zero_le _,by simp [gu]⟩
   rintro⟨j,o⟩ ⟨hj,ho⟩
   have hol:=mq ho
   (try simp only [List.length_append,List.length_cons,List.length_nil] at hol)
   (repeat' ((conv=>whnf);first|refine gA ?_|(refine gB ?_ ?_<;>intro h)|(refine gI ?_;intro x hx)|(refine gJ ?_;intro j x hj hx)|refine gP ?_|refine gV ?_|intro _))<;>try (conv=>whnf)
   ·refine nw ⟨j+1,o++[⟨4,k,x⟩]⟩ ?_ ?_
    ·(repeat' ((conv=>whnf)<;>(first|exact trivial|exact rfl|with_reducible refine And.intro ?_ ?_)))<;>((conv=>whnf)<;>(simp [Lit.av]))
    exact⟨by omega,kU ho hx⟩
   ·refine nw (k+1) ?_ ?_
    ·(repeat' ((conv=>whnf)<;>(first|exact trivial|exact rfl|with_reducible refine And.intro ?_ ?_)))<;>((conv=>whnf)<;>((rw [← hnx];simp [mh ho (by omega)])))
    exact (by omega:k+1≤p.acts.length)
  ·have hu:wS k lo= [⟨1,k,lo⟩]:=if_pos (by omega)
   have hv:wT p.dead k up= []:=if_neg (by omega)
   have hd:=jP a.modes.length m
   have hq:=fU p b k
   have hnx:=jQ g hu hv
   refine au [2,3,6,16,17,18,65,66] [2,3] [14] ?_
   (conv=>whnf)
   refine ak.mk ((Nat)×(List Lit)) (fun⟨j,o⟩=>(j≤(cO (aP a.modes.length) m).length)∧(o=dh p b k++[⟨1,k,lo⟩]++gu k ((cO (aP a.modes.length) m).take j))) (fun⟨j,o⟩=>[(67,.data (i64 j)),(5,.own 14 0)]) (fun _=>[]) (fun⟨j,o⟩=>[(14,190,o.map Lit.av,0)]) (fun⟨j,o⟩=>(cO (aP a.modes.length) m).length - j) ⟨0,dh p b k++[⟨1,k,lo⟩]⟩ ?_ ?_ ?_
   rotate_left
   ·(repeat' ((conv=>whnf)<;>(first|exact trivial|exact rfl|with_reducible refine And.intro ?_ ?_)))<;>((conv=>whnf)<;>(simp [Lit.av]))
   rotate_left
   ·exact⟨Nat.zero_le _,by simp [gu]⟩
   rintro⟨j,o⟩ ⟨hj,ho⟩
   have hol:=mq ho
   (try simp only [List.length_append,List.length_cons,List.length_nil] at hol)
   (repeat' ((conv=>whnf);first|refine gA ?_|(refine gB ?_ ?_<;>intro h)|(refine gI ?_;intro x hx)|(refine gJ ?_;intro j x hj hx)|refine gP ?_|refine gV ?_|intro _))<;>try (conv=>whnf)
   ·refine nw ⟨j+1,o++[⟨4,k,x⟩]⟩ ?_ ?_
    ·(repeat' ((conv=>whnf)<;>(first|exact trivial|exact rfl|with_reducible refine And.intro ?_ ?_)))<;>((conv=>whnf)<;>(simp [Lit.av]))
    exact⟨by omega,kU ho hx⟩
   ·refine nw (k+1) ?_ ?_
    ·(repeat' ((conv=>whnf)<;>(first|exact trivial|exact rfl|with_reducible refine And.intro ?_ ?_)))<;>((conv=>whnf)<;>((rw [← hnx];simp [mh ho (by omega)])))
    exact (by omega:k+1≤p.acts.length)
  ·have hu:wS k lo= []:=if_neg (by omega)
   have hv:wT p.dead k up= [⟨2,k,up⟩]:=if_pos (by omega)
   have hd:=jP a.modes.length m
   have hq:=fU p b k
   have hnx:=jQ g hu hv
   refine au [2,3,6,16,17,18,65,66] [2,3] [14] ?_
   (conv=>whnf)
   refine ak.mk ((Nat)×(List Lit)) (fun⟨j,o⟩=>(j≤(cO (aP a.modes.length) m).length)∧(o=dh p b k++[⟨2,k,up⟩]++gu k ((cO (aP a.modes.length) m).take j))) (fun⟨j,o⟩=>[(67,.data (i64 j)),(5,.own 14 0)]) (fun _=>[]) (fun⟨j,o⟩=>[(14,190,o.map Lit.av,0)]) (fun⟨j,o⟩=>(cO (aP a.modes.length) m).length - j) ⟨0,dh p b k++[⟨2,k,up⟩]⟩ ?_ ?_ ?_
   rotate_left
   ·(repeat' ((conv=>whnf)<;>(first|exact trivial|exact rfl|with_reducible refine And.intro ?_ ?_)))<;>((conv=>whnf)<;>(simp [Lit.av]))
   rotate_left
   ·exact⟨Nat.zero_le _,by simp [gu]⟩
   rintro⟨j,o⟩ ⟨hj,ho⟩
   have hol:=mq ho
   (try simp only [List.length_append,List.length_cons,List.length_nil] at hol)
   (repeat' ((conv=>whnf);first|refine gA ?_|(refine gB ?_ ?_<;>intro h)|(refine gI ?_;intro x hx)|(refine gJ ?_;intro j x hj hx)|refine gP ?_|refine gV ?_|intro _))<;>try (conv=>whnf)
   ·refine nw ⟨j+1,o++[⟨4,k,x⟩]⟩ ?_ ?_
    ·(repeat' ((conv=>whnf)<;>(first|exact trivial|exact rfl|with_reducible refine And.intro ?_ ?_)))<;>((conv=>whnf)<;>(simp [Lit.av]))
    exact⟨by omega,kU ho hx⟩
   ·refine nw (k+1) ?_ ?_
    ·(repeat' ((conv=>whnf)<;>(first|exact trivial|exact rfl|with_reducible refine And.intro ?_ ?_)))<;>((conv=>whnf)<;>((rw [← hnx];simp [mh ho (by omega)])))
    exact (by omega:k+1≤p.acts.length)
  ·have hu:wS k lo= []:=if_neg (by omega)
   have hv:wT p.dead k up= []:=if_neg (by omega)
   have hd:=jP a.modes.length m
   have hq:=fU p b k
   have hnx:=jQ g hu hv
   refine au [2,3,6,16,17,18,65,66] [2,3] [14] ?_
   (conv=>whnf)
   refine ak.mk ((Nat)×(List Lit)) (fun⟨j,o⟩=>(j≤(cO (aP a.modes.length) m).length)∧(o=dh p b k++gu k ((cO (aP a.modes.length) m).take j))) (fun⟨j,o⟩=>[(67,.data (i64 j)),(5,.own 14 0)]) (fun _=>[]) (fun⟨j,o⟩=>[(14,190,o.map Lit.av,0)]) (fun⟨j,o⟩=>(cO (aP a.modes.length) m).length - j) ⟨0,dh p b k⟩ ?_ ?_ ?_
   rotate_left
   ·(repeat' ((conv=>whnf)<;>(first|exact trivial|exact rfl|with_reducible refine And.intro ?_ ?_)))<;>((conv=>whnf)<;>(simp [Lit.av]))
   rotate_left
   ·exact⟨Nat.zero_le _,by simp [gu]⟩
   rintro⟨j,o⟩ ⟨hj,ho⟩
   have hol:=mq ho
   (try simp only [List.length_append,List.length_cons,List.length_nil] at hol)
   (repeat' ((conv=>whnf);first|refine gA ?_|(refine gB ?_ ?_<;>intro h)|(refine gI ?_;intro x hx)|(refine gJ ?_;intro j x hj hx)|refine gP ?_|refine gV ?_|intro _))<;>try (conv=>whnf)
   ·refine nw ⟨j+1,o++[⟨4,k,x⟩]⟩ ?_ ?_
    ·(repeat' ((conv=>whnf)<;>(first|exact trivial|exact rfl|with_reducible refine And.intro ?_ ?_)))<;>((conv=>whnf)<;>(simp [Lit.av]))
    exact⟨by omega,kU ho hx⟩
   ·refine nw (k+1) ?_ ?_
    ·(repeat' ((conv=>whnf)<;>(first|exact trivial|exact rfl|with_reducible refine And.intro ?_ ?_)))<;>((conv=>whnf)<;>((rw [← hnx];simp [mh ho (by omega)])))
    exact (by omega:k+1≤p.acts.length)
  ·exact trivial
theorem Bq (p:Proj) (b:Dom) (hp:p.fine):Con 397 [.d p.av,.d b.av] (.d (lits (jk p b))):=by
 refine con Tryz.func397 rfl rfl Tryz.call397 rfl fun hwf=>?_
 simp only [ARs.wf,AR.wf,AV.wf,AV.wfs,lm,lim] at hwf
 cases hf:aQ p b with
 |false=>
  (repeat' ((conv=>whnf);first|with_reducible refine Br.no hf ?_|with_reducible refine Br.yes hf ?_|refine gA ?_|(refine gB ?_ ?_<;>intro h)|(refine gI ?_;intro x hx)|(refine gJ ?_;intro j x hj hx)|refine gP ?_|refine gV ?_|refine gC (bX p b hp) ?_|intro _))<;>try (conv=>whnf)
  refine⟨?_,rfl,trivial⟩
  rw [jk,if_neg (by rw [hf];exact Bool.false_ne_true)];rfl
 |true=>
  rw [jk,if_pos hf]
  obtain⟨hpo,l1,l2,l3,_⟩:=bB hf
  have hna:=(eu hpo).Jj
  have hde:=(eu hpo).dead
  (repeat' ((conv=>whnf);first|with_reducible refine Br.no hf ?_|with_reducible refine Br.yes hf ?_|refine gA ?_|(refine gB ?_ ?_<;>intro h)|(refine gI ?_;intro x hx)|(refine gJ ?_;intro j x hj hx)|refine gP ?_|refine gV ?_|refine gC (bX p b hp) ?_|intro _))<;>try (conv=>whnf)
  refine au [2,3,16,17] [2,3] [10] ?_
  (conv=>whnf)
  refine ak.go ((Nat)) (fun k=>(k≤p.acts.length)) (fun k=>[(18,.data (i64 k)),(5,.own 10 0)]) (fun _=>[]) (fun k=>[(10,190,(dh p b k).map Lit.av,0)]) (fun k=>p.acts.length - k) (0) ?_ ?_
  ·exact Nat.zero_le _
  rintro k hk
  by_cases hlt:k < p.acts.length
  rotate_left
  ·(repeat' ((conv=>whnf);first|(exfalso;omega)|refine gA ?_|(refine gB ?_ ?_<;>intro h)|(refine gI ?_;intro x hx)|(refine gJ ?_;intro j x hj hx)|refine gP ?_|refine gV ?_|intro _))<;>try (conv=>whnf)
   refine⟨?_,rfl,trivial⟩
   rw [show p.acts.length=k by omega]
  obtain⟨a,lo,up,m,g⟩:=fF hf hlt
  have hxb:=g.lob
  have hyb:=g.hib
  have hq0:=fU p b k
  (repeat' ((conv=>whnf);first|with_reducible refine Idx.got g.act rfl ?_|with_reducible refine Idx.got g.lo rfl ?_|with_reducible refine Idx.got g.hi rfl ?_|with_reducible refine Idx.got g.modes rfl ?_|refine gA ?_|(refine gB ?_ ?_<;>intro h)|(refine gI ?_;intro x hx)|(refine gJ ?_;intro j x hj hx)|refine gP ?_|refine gV ?_|refine gC (qp a) ?_|refine gC (Dn (aP a.modes.length) m) ?_|intro _))<;>try (conv=>whnf)
  ·have hu:wS k lo= [⟨1,k,lo⟩]:=if_pos (by omega)
   have hv:wT p.dead k up= [⟨2,k,up⟩]:=if_pos (by omega)
   have hd:=jP a.modes.length m
   have hq:=fU p b k
   have hnx:=jQ g hu hv
   refine au [2,3,6,16,17,18,65,66] [2,3] [10] ?_
   (conv=>whnf)
   refine ak.mk ((Nat)×(List Lit)) (fun⟨j,o⟩=>(j≤(cO (aP a.modes.length) m).length)∧(o=dh p b k++[⟨1,k,lo⟩]++[⟨2,k,up⟩]++gu k ((cO (aP a.modes.length) m).take j))) (fun⟨j,o⟩=>[(67,.data (i64 j)),(5,.own 10 0)]) (fun _=>[]) (fun⟨j,o⟩=>[(10,190,o.map Lit.av,0)]) (fun⟨j,o⟩=>(cO (aP a.modes.length) m).length - j) ⟨0,dh p b k++[⟨1,k,lo⟩]++[⟨2,k,up⟩]⟩ ?_ ?_ ?_
   rotate_left
   ·(repeat' ((conv=>whnf)<;>(first|exact trivial|exact rfl|with_reducible refine And.intro ?_ ?_)))<;>((conv=>whnf)<;>(simp [Lit.av]))
   rotate_left
   ·exact⟨Nat.zero_le _,by simp [gu]⟩
   rintro⟨j,o⟩ ⟨hj,ho⟩
   have hol:=mq ho
   (try simp only [List.length_append,List.length_cons,List.length_nil] at hol)
   (repeat' ((conv=>whnf);first|refine gA ?_|(refine gB ?_ ?_<;>intro h)|(refine gI ?_;intro x hx)|(refine gJ ?_;intro j x hj hx)|refine gP ?_|refine gV ?_|intro _))<;>try (conv=>whnf)
   ·refine nw ⟨j+1,o++[⟨4,k,x⟩]⟩ ?_ ?_
    ·(repeat' ((conv=>whnf)<;>(first|exact trivial|exact rfl|with_reducible refine And.intro ?_ ?_)))<;>((conv=>whnf)<;>(simp [Lit.av]))
    exact⟨by omega,kU ho hx⟩
   ·refine nw (k+1) ?_ ?_
    ·(repeat' ((conv=>whnf)<;>(first|exact trivial|exact rfl|with_reducible refine And.intro ?_ ?_)))<;>((conv=>whnf)<;>((rw [← hnx];simp [mh ho (by omega)])))
    exact (by omega:k+1≤p.acts.length)
  ·have hu:wS k lo= [⟨1,k,lo⟩]:=if_pos (by omega)
   have hv:wT p.dead k up= []:=if_neg (by omega)
   have hd:=jP a.modes.length m
   have hq:=fU p b k
   have hnx:=jQ g hu hv
   refine au [2,3,6,16,17,18,65,66] [2,3] [10] ?_
   (conv=>whnf)
   refine ak.mk ((Nat)×(List Lit)) (fun⟨j,o⟩=>(j≤(cO (aP a.modes.length) m).length)∧(o=dh p b k++[⟨1,k,lo⟩]++gu k ((cO (aP a.modes.length) m).take j))) (fun⟨j,o⟩=>[(67,.data (i64 j)),(5,.own 10 0)]) (fun _=>[]) (fun⟨j,o⟩=>[(10,190,o.map Lit.av,0)]) (fun⟨j,o⟩=>(cO (aP a.modes.length) m).length - j) ⟨0,dh p b k++[⟨1,k,lo⟩]⟩ ?_ ?_ ?_
   rotate_left
   ·(repeat' ((conv=>whnf)<;>(first|exact trivial|exact rfl|with_reducible refine And.intro ?_ ?_)))<;>((conv=>whnf)<;>(simp [Lit.av]))
   rotate_left
   ·exact⟨Nat.zero_le _,by simp [gu]⟩
   rintro⟨j,o⟩ ⟨hj,ho⟩
   have hol:=mq ho
   (try simp only [List.length_append,List.length_cons,List.length_nil] at hol)
   (repeat' ((conv=>whnf);first|refine gA ?_|(refine gB ?_ ?_<;>intro h)|(refine gI ?_;intro x hx)|(refine gJ ?_;intro j x hj hx)|refine gP ?_|refine gV ?_|intro _))<;>try (conv=>whnf)
   ·refine nw ⟨j+1,o++[⟨4,k,x⟩]⟩ ?_ ?_
    ·(repeat' ((conv=>whnf)<;>(first|exact trivial|exact rfl|with_reducible refine And.intro ?_ ?_)))<;>((conv=>whnf)<;>(simp [Lit.av]))
    exact⟨by omega,kU ho hx⟩
   ·refine nw (k+1) ?_ ?_
    ·(repeat' ((conv=>whnf)<;>(first|exact trivial|exact rfl|with_reducible refine And.intro ?_ ?_)))<;>((conv=>whnf)<;>((rw [← hnx];simp [mh ho (by omega)])))
    exact (by omega:k+1≤p.acts.length)
  ·have hu:wS k lo= []:=if_neg (by omega)
   have hv:wT p.dead k up= [⟨2,k,up⟩]:=if_pos (by omega)
   have hd:=jP a.modes.length m
   have hq:=fU p b k
   have hnx:=jQ g hu hv
   refine au [2,3,6,16,17,18,65,66] [2,3] [10] ?_
   (conv=>whnf)
   refine ak.mk ((Nat)×(List Lit)) (fun⟨j,o⟩=>(j≤(cO (aP a.modes.length) m).length)∧(o=dh p b k++[⟨2,k,up⟩]++gu k ((cO (aP a.modes.length) m).take j))) (fun⟨j,o⟩=>[(67,.data (i64 j)),(5,.own 10 0)]) (fun _=>[]) (fun⟨j,o⟩=>[(10,190,o.map Lit.av,0)]) (fun⟨j,o⟩=>(cO (aP a.modes.length) m).length - j) ⟨0,dh p b k++[⟨2,k,up⟩]⟩ ?_ ?_ ?_
   rotate_left
   ·(repeat' ((conv=>whnf)<;>(first|exact trivial|exact rfl|with_reducible refine And.intro ?_ ?_)))<;>((conv=>whnf)<;>(simp [Lit.av]))
   rotate_left
   ·exact⟨Nat.zero_le _,by simp [gu]⟩
   rintro⟨j,o⟩ ⟨hj,ho⟩
   have hol:=mq ho
   (try simp only [List.length_append,List.length_cons,List.length_nil] at hol)
   (repeat' ((conv=>whnf);first|refine gA ?_|(refine gB ?_ ?_<;>intro h)|(refine gI ?_;intro x hx)|(refine gJ ?_;intro j x hj hx)|refine gP ?_|refine gV ?_|intro _))<;>try (conv=>whnf)
   ·refine nw ⟨j+1,o++[⟨4,k,x⟩]⟩ ?_ ?_
    ·(repeat' ((conv=>whnf)<;>(first|exact trivial|exact rfl|with_reducible refine And.intro ?_ ?_)))<;>((conv=>whnf)<;>(simp [Lit.av]))
    exact⟨by omega,kU ho hx⟩
   ·refine nw (k+1) ?_ ?_
    ·(repeat' ((conv=>whnf)<;>(first|exact trivial|exact rfl|with_reducible refine And.intro ?_ ?_)))<;>((conv=>whnf)<;>((rw [← hnx];simp [mh ho (by omega)])))
    exact (by omega:k+1≤p.acts.length)
  ·have hu:wS k lo= []:=if_neg (by omega)
   have hv:wT p.dead k up= []:=if_neg (by omega)
   have hd:=jP a.modes.length m
   have hq:=fU p b k
   have hnx:=jQ g hu hv
   refine au [2,3,6,16,17,18,65,66] [2,3] [10] ?_
   (conv=>whnf)
   refine ak.mk ((Nat)×(List Lit)) (fun⟨j,o⟩=>(j≤(cO (aP a.modes.length) m).length)∧(o=dh p b k++gu k ((cO (aP a.modes.length) m).take j))) (fun⟨j,o⟩=>[(67,.data (i64 j)),(5,.own 10 0)]) (fun _=>[]) (fun⟨j,o⟩=>[(10,190,o.map Lit.av,0)]) (fun⟨j,o⟩=>(cO (aP a.modes.length) m).length - j) ⟨0,dh p b k⟩ ?_ ?_ ?_
   rotate_left
   ·(repeat' ((conv=>whnf)<;>(first|exact trivial|exact rfl|with_reducible refine And.intro ?_ ?_)))<;>((conv=>whnf)<;>(simp [Lit.av]))
   rotate_left
   ·exact⟨Nat.zero_le _,by simp [gu]⟩
   rintro⟨j,o⟩ ⟨hj,ho⟩
   have hol:=mq ho
   (try simp only [List.length_append,List.length_cons,List.length_nil] at hol)
   (repeat' ((conv=>whnf);first|refine gA ?_|(refine gB ?_ ?_<;>intro h)|(refine gI ?_;intro x hx)|(refine gJ ?_;intro j x hj hx)|refine gP ?_|refine gV ?_|intro _))<;>try (conv=>whnf)
   ·refine nw ⟨j+1,o++[⟨4,k,x⟩]⟩ ?_ ?_
    ·(repeat' ((conv=>whnf)<;>(first|exact trivial|exact rfl|with_reducible refine And.intro ?_ ?_)))<;>((conv=>whnf)<;>(simp [Lit.av]))
    exact⟨by omega,kU ho hx⟩
   ·refine nw (k+1) ?_ ?_
    ·(repeat' ((conv=>whnf)<;>(first|exact trivial|exact rfl|with_reducible refine And.intro ?_ ?_)))<;>((conv=>whnf)<;>((rw [← hnx];simp [mh ho (by omega)])))
    exact (by omega:k+1≤p.acts.length)
  ·exact trivial
def wV (p:Proj) (b:Dom):List Lit:=(jk p b).map negate
theorem Xu (p:Proj) (b:Dom):(jk p b).map (fun x=>(negate x).av)=(wV p b).map Lit.av:=by rw [wV,List.map_map];rfl
theorem LV (p:Proj) (b:Dom) (hp:p.fine):Con 368 [.d p.av,.d b.av] (.own 190 ((wV p b).map Lit.av)):=by
 refine con Tryz.func368 rfl rfl Tryz.call368 rfl fun hwf=>?_
 have hd:=Ac p b
 (repeat' ((conv=>whnf);first|refine gA ?_|(refine gB ?_ ?_<;>intro h)|(refine gI ?_;intro x hx)|(refine gJ ?_;intro j x hj hx)|refine gP ?_|refine gV ?_|refine gC (Bp p b hp) ?_|intro _))<;>try (conv=>whnf)
 refine au [11,12] [] [8] ?_
 (conv=>whnf)
 refine ak.go ((Nat)) (fun k=>(k≤(jk p b).length)) (fun k=>[(13,.data (i64 k)),(5,.own 8 0)]) (fun _=>[]) (fun k=>[(8,190,((jk p b).take k).map (fun x=>(negate x).av),0)]) (fun k=>(jk p b).length - k) (0) ?_ ?_
 ·exact Nat.zero_le _
 rintro k hk
 (repeat' ((conv=>whnf);first|refine gA ?_|(refine gB ?_ ?_<;>intro h)|(refine gI ?_;intro x hx)|(refine gJ ?_;intro j x hj hx)|refine gP ?_|refine gV ?_|refine gC (zM x) ?_|intro _))<;>try (conv=>whnf)
 ·refine nw (k+1) ?_ ?_
  ·(repeat' ((conv=>whnf)<;>(first|exact trivial|exact rfl|with_reducible refine And.intro ?_ ?_)))<;>((conv=>whnf)<;>(exact eX _ hx))
  exact (by omega:k+1≤(jk p b).length)
 ·(repeat' ((conv=>whnf)<;>(first|exact trivial|exact VC.nod (by kernel_rfl)|refine VC.mk rfl ?_|refine VC.mk (by dsimp only;rw [List.take_of_length_le (by omega),Xu]) ?_)))
theorem Ad (p:Proj) (b:Dom) (hp:p.fine):Con 355 [.d p.av,.d b.av] (.own 190 ((wV p b).map Lit.av)):=by
 refine con Tryz.func355 rfl rfl Tryz.call355 rfl fun hwf=>?_
 have hd:=Ac p b
 (repeat' ((conv=>whnf);first|refine gA ?_|(refine gB ?_ ?_<;>intro h)|(refine gI ?_;intro x hx)|(refine gJ ?_;intro j x hj hx)|refine gP ?_|refine gV ?_|refine gC (Bq p b hp) ?_|intro _))<;>try (conv=>whnf)
 refine au [11,12] [] [8] ?_
 (conv=>whnf)
 refine ak.go ((Nat)) (fun k=>(k≤(jk p b).length)) (fun k=>[(13,.data (i64 k)),(5,.own 8 0)]) (fun _=>[]) (fun k=>[(8,190,((jk p b).take k).map (fun x=>(negate x).av),0)]) (fun k=>(jk p b).length - k) (0) ?_ ?_
 ·exact Nat.zero_le _
 rintro k hk
 (repeat' ((conv=>whnf);first|refine gA ?_|(refine gB ?_ ?_<;>intro h)|(refine gI ?_;intro x hx)|(refine gJ ?_;intro j x hj hx)|refine gP ?_|refine gV ?_|refine gC (uR x) ?_|intro _))<;>try (conv=>whnf)
 ·refine nw (k+1) ?_ ?_
  ·(repeat' ((conv=>whnf)<;>(first|exact trivial|exact rfl|with_reducible refine And.intro ?_ ?_)))<;>((conv=>whnf)<;>(exact eX _ hx))
  exact (by omega:k+1≤(jk p b).length)
 ·(repeat' ((conv=>whnf)<;>(first|exact trivial|exact VC.nod (by kernel_rfl)|refine VC.mk rfl ?_|refine VC.mk (by dsimp only;rw [List.take_of_length_le (by omega),Xu]) ?_)))
end Go.Proofs.YtglikcnmgnlejaaGreat.Abs
