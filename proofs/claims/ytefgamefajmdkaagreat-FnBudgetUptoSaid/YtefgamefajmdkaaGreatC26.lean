/- Contracts: a domain's literals; refutations are explained. -/
import Derived.Test.YtefgamefajmdkaaGreatNd
set_option linter.all false
set_option maxRecDepth 20000
set_option maxHeartbeats 0
namespace Go.Proofs.YtefgamefajmdkaaGreat.Abs
open Go.Proofs
def gF (a b:List Int):List Int:=setOf (a.filter fun n=> !b.contains n)
theorem xk (k:Int) (b:List Int):Con 316 [.d (i64 k),.ref (ints b)] (.d (.bool (!b.contains k))):=by
 refine con Tryz.func316 rfl rfl Tryz.call316 rfl fun hwf=>?_
 (repeat' ((conv=>whnf);first|refine gA ?_|(refine gB ?_ ?_<;>intro h)|refine gC (qD b k) ?_|intro _))<;>try (conv=>whnf)
 all_goals exact⟨rfl,rfl,trivial⟩
theorem zi (a b:List Int):Con 308 [.d (ints a),.d (ints b)] (.d (ints (gF a b))):=by
 refine con Tryz.func308 rfl rfl Tryz.call308 rfl fun hwf=>?_
 (repeat' ((conv=>whnf);first|refine gA ?_|(refine gB ?_ ?_<;>intro h)|refine gC (Cu a 316 [ints b] _ fun x=>xk x b) ?_|refine gC (mF (a.filter fun n=> !b.contains n)) ?_|intro _))<;>try (conv=>whnf)
 all_goals exact⟨rfl,rfl,trivial⟩
def AU (k:Nat) (x:Int):List Lit:=if x > 0 then [⟨1,k,x⟩] else []
def AY (d:Int) (k:Nat) (y:Int):List Lit:=if y < d - 1 then [⟨2,k,y⟩] else []
def iM (k:Nat) (l:List Int):List Lit:=l.map fun n=>⟨4,k,n⟩
def rY (p:Proj) (b:Dom) (k:Nat):List Lit:=
 match p.acts[k]?,b.lo[k]?,b.hi[k]?,b.modes[k]? with
 |some a,some x,some y,some m=>AU k x++AY p.dead k y++iM k (gF (aT a.modes.length) m)
 |_,_,_,_=>[]
def eY (p:Proj) (b:Dom):Nat→List Lit
 |0=>[]
 |k+1=>eY p b k++rY p b k
def lS (p:Proj) (b:Dom):List Lit:=if aS p b=true then eY p b p.acts.length else []
theorem LQ {p:Proj} {b:Dom} {k:Nat} {a:aB} {x y:Int} {m:List Int} (g:dX p b k a x y m):rY p b k=AU k x++AY p.dead k y++iM k (gF (aT a.modes.length) m):=by
 simp only [rY,g.act,g.lo,g.hi,g.modes]
theorem AZ (n:Int):(aT n).length≤200:=by
 unfold aT
 split
 ·rename_i h
  have:=within_iff.1 h
  simp;omega
 ·simp
theorem nE (n:Int) (m:List Int):(gF (aT n) m).length≤200:=by
 have h1:=jg ((aT n).filter fun n=> !m.contains n)
 have h2:=List.length_filter_le (fun n=> !m.contains n) (aT n)
 have h3:=AZ n
 simp only [gF];omega
theorem IE (p:Proj) (b:Dom) (k:Nat):(rY p b k).length≤202:=by
 unfold rY
 split
 ·rename_i a x y m _ _ _ _
  have:=nE a.modes.length m
  have h1:(AU k x).length≤1:=by unfold AU;split<;>simp
  have h2:(AY p.dead k y).length≤1:=by unfold AY;split<;>simp
  simp only [List.length_append,iM,List.length_map];omega
 ·simp
theorem jT (p:Proj) (b:Dom) (k:Nat):(eY p b k).length≤202*k:=by
 induction k with
 |zero=>simp [eY]
 |succ k ih=>
  have:=IE p b k
  simp only [eY,List.length_append];omega
theorem DC (p:Proj) (b:Dom):(lS p b).length≤1212:=by
 unfold lS
 split
 ·rename_i h
  have h1:=(dP (bF h).1).FU
  have h2:=jT p b p.acts.length
  omega
 ·simp
theorem qK {k j:Nat} {l:List Int} {n:Int} {o q:List Lit} (ho:o=q++iM k (l.take j)) (hn:l[j]? =some n):o++[⟨4,(k:Int),n⟩]=q++iM k (l.take (j+1)):=by
 obtain⟨hj,rfl⟩:=List.getElem?_eq_some_iff.1 hn
 rw [ho,List.take_succ_eq_append_getElem hj,iM,iM,List.map_append,List.append_assoc];rfl
theorem tY {k j:Nat} {l:List Int} {o q:List Lit} (ho:o=q++iM k (l.take j)) (hn:l.length≤j):o=q++iM k l:=by
 rw [ho,List.take_of_length_le hn]
theorem tZ {k j:Nat} {l:List Int} {o q:List Lit} (ho:o=q++iM k (l.take j)):o.length≤q.length+l.length:=by
 rw [ho];simp only [List.length_append,iM,List.length_map,List.length_take];omega
theorem oF {p:Proj} {b:Dom} {k:Nat} {a:aB} {x y:Int} {m:List Int} (g:dX p b k a x y m) {u v:List Lit} (hu:AU k x=u) (hv:AY p.dead k y=v):eY p b k++u++v++iM k (gF (aT a.modes.length) m)=eY p b (k+1):=by
 rw [eY,LQ g,hu,hv];simp [List.append_assoc]
theorem xq (p:Proj) (b:Dom) (hp:p.fine):Con 282 [.d p.av,.d b.av] (.d (lits (lS p b))):=by
 refine con Tryz.func282 rfl rfl Tryz.call282 rfl fun hwf=>?_
 simp only [ARs.wf,AR.wf,AV.wf,AV.wfs,lm,lim] at hwf
 cases hf:aS p b with
 |false=>
  (repeat' ((conv=>whnf);first|with_reducible refine Br.no hf ?_|with_reducible refine Br.yes hf ?_|refine gA ?_|(refine gB ?_ ?_<;>intro h)|(refine gI ?_;intro x hx)|(refine gJ ?_;intro j x hj hx)|refine gP ?_|refine gV ?_|refine gC (aL p b hp) ?_|intro _))<;>try (conv=>whnf)
  refine⟨?_,rfl,trivial⟩
  rw [lS,if_neg (by rw [hf];exact Bool.false_ne_true)];rfl
 |true=>
  rw [lS,if_pos hf]
  obtain⟨hpo,l1,l2,l3,_⟩:=bF hf
  have hna:=(dP hpo).FU
  have hde:=(dP hpo).dead
  (repeat' ((conv=>whnf);first|with_reducible refine Br.no hf ?_|with_reducible refine Br.yes hf ?_|refine gA ?_|(refine gB ?_ ?_<;>intro h)|(refine gI ?_;intro x hx)|(refine gJ ?_;intro j x hj hx)|refine gP ?_|refine gV ?_|refine gC (aL p b hp) ?_|intro _))<;>try (conv=>whnf)
  refine aA [2,3,16,17] [2,3] [14] ?_
  (conv=>whnf)
  refine ay.go ((Nat)) (fun k=>(k≤p.acts.length)) (fun k=>[(18,.data (i64 k)),(5,.own 14 0)]) (fun _=>[]) (fun k=>[(14,82,(eY p b k).map Lit.av,0)]) (fun k=>p.acts.length - k) (0) ?_ ?_
  ·exact Nat.zero_le _
  rintro k hk
  by_cases hlt:k < p.acts.length
  rotate_left
  ·(repeat' ((conv=>whnf);first|(exfalso;omega)|refine gA ?_|(refine gB ?_ ?_<;>intro h)|(refine gI ?_;intro x hx)|(refine gJ ?_;intro j x hj hx)|refine gP ?_|refine gV ?_|intro _))<;>try (conv=>whnf)
   refine⟨?_,rfl,trivial⟩
   rw [show p.acts.length=k by omega]
  obtain⟨a,lo,up,m,g⟩:=gY hf hlt
  have hxb:=g.lob
  have hyb:=g.hib
  have hq0:=jT p b k
  (repeat' ((conv=>whnf);first|with_reducible refine Idx.got g.act rfl ?_|with_reducible refine Idx.got g.lo rfl ?_|with_reducible refine Idx.got g.hi rfl ?_|with_reducible refine Idx.got g.modes rfl ?_|refine gA ?_|(refine gB ?_ ?_<;>intro h)|(refine gI ?_;intro x hx)|(refine gJ ?_;intro j x hj hx)|refine gP ?_|refine gV ?_|refine gC (mD a) ?_|refine gC (zi (aT a.modes.length) m) ?_|intro _))<;>try (conv=>whnf)
  ·have hu:AU k lo= [⟨1,k,lo⟩]:=if_pos (by omega)
   have hv:AY p.dead k up= [⟨2,k,up⟩]:=if_pos (by omega)
   have hd:=nE a.modes.length m
   have hq:=jT p b k
   have hnx:=oF g hu hv
   refine aA [2,3,6,16,17,18,65,66] [2,3] [14] ?_
   (conv=>whnf)
   refine ay.mk ((Nat)×(List Lit)) (fun⟨j,o⟩=>(j≤(gF (aT a.modes.length) m).length)∧(o=eY p b k++[⟨1,k,lo⟩]++[⟨2,k,up⟩]++iM k ((gF (aT a.modes.length) m).take j))) (fun⟨j,o⟩=>[(67,.data (i64 j)),(5,.own 14 0)]) (fun _=>[]) (fun⟨j,o⟩=>[(14,82,o.map Lit.av,0)]) (fun⟨j,o⟩=>(gF (aT a.modes.length) m).length - j) ⟨0,eY p b k++[⟨1,k,lo⟩]++[⟨2,k,up⟩]⟩ ?_ ?_ ?_
   rotate_left
   ·(repeat' ((conv=>whnf)<;>(first|exact trivial|exact rfl|with_reducible refine And.intro ?_ ?_)))<;>((conv=>whnf)<;>(simp [Lit.av]))
   rotate_left
   ·exact⟨Nat.zero_le _,by simp [iM]⟩
   rintro⟨j,o⟩ ⟨hj,ho⟩
   have hol:=tZ ho
   (try simp only [List.length_append,List.length_cons,List.length_nil] at hol)
   (repeat' ((conv=>whnf);first|refine gA ?_|(refine gB ?_ ?_<;>intro h)|(refine gI ?_;intro x hx)|(refine gJ ?_;intro j x hj hx)|refine gP ?_|refine gV ?_|intro _))<;>try (conv=>whnf)
   ·refine nw ⟨j+1,o++[⟨4,k,x⟩]⟩ ?_ ?_
    ·(repeat' ((conv=>whnf)<;>(first|exact trivial|exact rfl|with_reducible refine And.intro ?_ ?_)))<;>((conv=>whnf)<;>(simp [Lit.av]))
    exact⟨by omega,qK ho hx⟩
   ·refine nw (k+1) ?_ ?_
    ·(repeat' ((conv=>whnf)<;>(first|exact trivial|exact rfl|with_reducible refine And.intro ?_ ?_)))<;>((conv=>whnf)<;>((rw [← hnx];simp [tY ho (by omega)])))
    exact (by omega:k+1≤p.acts.length)
  ·have hu:AU k lo= [⟨1,k,lo⟩]:=if_pos (by omega)
   have hv:AY p.dead k up= []:=if_neg (by omega)
   have hd:=nE a.modes.length m
   have hq:=jT p b k
   have hnx:=oF g hu hv
   refine aA [2,3,6,16,17,18,65,66] [2,3] [14] ?_
   (conv=>whnf)
   refine ay.mk ((Nat)×(List Lit)) (fun⟨j,o⟩=>(j≤(gF (aT a.modes.length) m).length)∧(o=eY p b k++[⟨1,k,lo⟩]++iM k ((gF (aT a.modes.length) m).take j))) (fun⟨j,o⟩=>[(67,.data (i64 j)),(5,.own 14 0)]) (fun _=>[]) (fun⟨j,o⟩=>[(14,82,o.map Lit.av,0)]) (fun⟨j,o⟩=>(gF (aT a.modes.length) m).length - j) ⟨0,eY p b k++[⟨1,k,lo⟩]⟩ ?_ ?_ ?_
   rotate_left
   ·(repeat' ((conv=>whnf)<;>(first|exact trivial|exact rfl|with_reducible refine And.intro ?_ ?_)))<;>((conv=>whnf)<;>(simp [Lit.av]))
   rotate_left
   ·exact⟨Nat.zero_le _,by simp [iM]⟩
   rintro⟨j,o⟩ ⟨hj,ho⟩
   have hol:=tZ ho
   (try simp only [List.length_append,List.length_cons,List.length_nil] at hol)
   (repeat' ((conv=>whnf);first|refine gA ?_|(refine gB ?_ ?_<;>intro h)|(refine gI ?_;intro x hx)|(refine gJ ?_;intro j x hj hx)|refine gP ?_|refine gV ?_|intro _))<;>try (conv=>whnf)
   ·refine nw ⟨j+1,o++[⟨4,k,x⟩]⟩ ?_ ?_
    ·(repeat' ((conv=>whnf)<;>(first|exact trivial|exact rfl|with_reducible refine And.intro ?_ ?_)))<;>((conv=>whnf)<;>(simp [Lit.av]))
    exact⟨by omega,qK ho hx⟩
   ·refine nw (k+1) ?_ ?_
    ·(repeat' ((conv=>whnf)<;>(first|exact trivial|exact rfl|with_reducible refine And.intro ?_ ?_)))<;>((conv=>whnf)<;>((rw [← hnx];simp [tY ho (by omega)])))
    exact (by omega:k+1≤p.acts.length)
  ·have hu:AU k lo= []:=if_neg (by omega)
   have hv:AY p.dead k up= [⟨2,k,up⟩]:=if_pos (by omega)
   have hd:=nE a.modes.length m
   have hq:=jT p b k
   have hnx:=oF g hu hv
   refine aA [2,3,6,16,17,18,65,66] [2,3] [14] ?_
   (conv=>whnf)
   refine ay.mk ((Nat)×(List Lit)) (fun⟨j,o⟩=>(j≤(gF (aT a.modes.length) m).length)∧(o=eY p b k++[⟨2,k,up⟩]++iM k ((gF (aT a.modes.length) m).take j))) (fun⟨j,o⟩=>[(67,.data (i64 j)),(5,.own 14 0)]) (fun _=>[]) (fun⟨j,o⟩=>[(14,82,o.map Lit.av,0)]) (fun⟨j,o⟩=>(gF (aT a.modes.length) m).length - j) ⟨0,eY p b k++[⟨2,k,up⟩]⟩ ?_ ?_ ?_
   rotate_left
   ·(repeat' ((conv=>whnf)<;>(first|exact trivial|exact rfl|with_reducible refine And.intro ?_ ?_)))<;>((conv=>whnf)<;>(simp [Lit.av]))
   rotate_left
   ·exact⟨Nat.zero_le _,by simp [iM]⟩
   rintro⟨j,o⟩ ⟨hj,ho⟩
   have hol:=tZ ho
   (try simp only [List.length_append,List.length_cons,List.length_nil] at hol)
   (repeat' ((conv=>whnf);first|refine gA ?_|(refine gB ?_ ?_<;>intro h)|(refine gI ?_;intro x hx)|(refine gJ ?_;intro j x hj hx)|refine gP ?_|refine gV ?_|intro _))<;>try (conv=>whnf)
   ·refine nw ⟨j+1,o++[⟨4,k,x⟩]⟩ ?_ ?_
    ·(repeat' ((conv=>whnf)<;>(first|exact trivial|exact rfl|with_reducible refine And.intro ?_ ?_)))<;>((conv=>whnf)<;>(simp [Lit.av]))
    exact⟨by omega,qK ho hx⟩
   ·refine nw (k+1) ?_ ?_
    ·(repeat' ((conv=>whnf)<;>(first|exact trivial|exact rfl|with_reducible refine And.intro ?_ ?_)))<;>((conv=>whnf)<;>((rw [← hnx];simp [tY ho (by omega)])))
    exact (by omega:k+1≤p.acts.length)
  ·have hu:AU k lo= []:=if_neg (by omega)
   have hv:AY p.dead k up= []:=if_neg (by omega)
   have hd:=nE a.modes.length m
   have hq:=jT p b k
   have hnx:=oF g hu hv
   refine aA [2,3,6,16,17,18,65,66] [2,3] [14] ?_
   (conv=>whnf)
   refine ay.mk ((Nat)×(List Lit)) (fun⟨j,o⟩=>(j≤(gF (aT a.modes.length) m).length)∧(o=eY p b k++iM k ((gF (aT a.modes.length) m).take j))) (fun⟨j,o⟩=>[(67,.data (i64 j)),(5,.own 14 0)]) (fun _=>[]) (fun⟨j,o⟩=>[(14,82,o.map Lit.av,0)]) (fun⟨j,o⟩=>(gF (aT a.modes.length) m).length - j) ⟨0,eY p b k⟩ ?_ ?_ ?_
   rotate_left
   ·(repeat' ((conv=>whnf)<;>(first|exact trivial|exact rfl|with_reducible refine And.intro ?_ ?_)))<;>((conv=>whnf)<;>(simp [Lit.av]))
   rotate_left
   ·exact⟨Nat.zero_le _,by simp [iM]⟩
   rintro⟨j,o⟩ ⟨hj,ho⟩
   have hol:=tZ ho
   (try simp only [List.length_append,List.length_cons,List.length_nil] at hol)
   (repeat' ((conv=>whnf);first|refine gA ?_|(refine gB ?_ ?_<;>intro h)|(refine gI ?_;intro x hx)|(refine gJ ?_;intro j x hj hx)|refine gP ?_|refine gV ?_|intro _))<;>try (conv=>whnf)
   ·refine nw ⟨j+1,o++[⟨4,k,x⟩]⟩ ?_ ?_
    ·(repeat' ((conv=>whnf)<;>(first|exact trivial|exact rfl|with_reducible refine And.intro ?_ ?_)))<;>((conv=>whnf)<;>(simp [Lit.av]))
    exact⟨by omega,qK ho hx⟩
   ·refine nw (k+1) ?_ ?_
    ·(repeat' ((conv=>whnf)<;>(first|exact trivial|exact rfl|with_reducible refine And.intro ?_ ?_)))<;>((conv=>whnf)<;>((rw [← hnx];simp [tY ho (by omega)])))
    exact (by omega:k+1≤p.acts.length)
  ·exact trivial
def Gx (p:Proj) (b:Dom):List Lit:=(lS p b).map negate
theorem Vd (p:Proj) (b:Dom):(lS p b).map (fun x=>(negate x).av)=(Gx p b).map Lit.av:=by rw [Gx,List.map_map];rfl
theorem vV (p:Proj) (b:Dom) (hp:p.fine):Con 251 [.d p.av,.d b.av] (.own 82 ((Gx p b).map Lit.av)):=by
 refine con Tryz.func251 rfl rfl Tryz.call251 rfl fun hwf=>?_
 have hd:=DC p b
 (repeat' ((conv=>whnf);first|refine gA ?_|(refine gB ?_ ?_<;>intro h)|(refine gI ?_;intro x hx)|(refine gJ ?_;intro j x hj hx)|refine gP ?_|refine gV ?_|refine gC (xq p b hp) ?_|intro _))<;>try (conv=>whnf)
 refine aA [11,12] [] [8] ?_
 (conv=>whnf)
 refine ay.go ((Nat)) (fun k=>(k≤(lS p b).length)) (fun k=>[(13,.data (i64 k)),(5,.own 8 0)]) (fun _=>[]) (fun k=>[(8,82,((lS p b).take k).map (fun x=>(negate x).av),0)]) (fun k=>(lS p b).length - k) (0) ?_ ?_
 ·exact Nat.zero_le _
 rintro k hk
 (repeat' ((conv=>whnf);first|refine gA ?_|(refine gB ?_ ?_<;>intro h)|(refine gI ?_;intro x hx)|(refine gJ ?_;intro j x hj hx)|refine gP ?_|refine gV ?_|refine gC (dZ x) ?_|intro _))<;>try (conv=>whnf)
 ·refine nw (k+1) ?_ ?_
  ·(repeat' ((conv=>whnf)<;>(first|exact trivial|exact rfl|with_reducible refine And.intro ?_ ?_)))<;>((conv=>whnf)<;>(exact jf _ hx))
  exact (by omega:k+1≤(lS p b).length)
 ·(repeat' ((conv=>whnf)<;>(first|exact trivial|exact VC.nod (by kernel_rfl)|refine VC.mk rfl ?_|refine VC.mk (by dsimp only;rw [List.take_of_length_le (by omega),Vd]) ?_)))
def explain (p:Proj) (b:Dom) (r:Rul):List Lit:=if refutes p b r=true then rX p r (fun _=>false) (eP (Gx p b)) else []
theorem rZ (x:Lit):Con 252 [.d x.av] (.d (.bool false)):=by
 refine con Tryz.func252 rfl rfl Tryz.call252 rfl fun hwf=>?_
 (repeat' ((conv=>whnf);first|refine gA ?_|(refine gB ?_ ?_<;>intro h)|intro _))<;>try (conv=>whnf)
 all_goals exact⟨rfl,rfl,trivial⟩
end Go.Proofs.YtefgamefajmdkaaGreat.Abs
