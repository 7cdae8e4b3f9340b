/- Contracts: a domain's literals; refutations are explained. -/
import Derived.Test.YtjfnojijdggfhaaGreatNd
set_option linter.all false
set_option maxRecDepth 20000
set_option maxHeartbeats 0
namespace Go.Proofs.YtjfnojijdggfhaaGreat.Abs
open Go.Proofs
def dY (a b:List Int):List Int:=setOf (a.filter fun n=> !b.contains n)
theorem xg (k:Int) (b:List Int):Con 196 [.d (i64 k),.ref (ints b)] (.d (.bool (!b.contains k))):=by
 refine con Tryz.func196 rfl rfl Tryz.call196 rfl fun hwf=>?_
 (repeat' ((conv=>whnf);first|refine gA ?_|(refine gB ?_ ?_<;>intro h)|refine gC (nE b k) ?_|intro _))<;>try (conv=>whnf)
 all_goals exact⟨rfl,rfl,trivial⟩
theorem yT (a b:List Int):Con 160 [.d (ints a),.d (ints b)] (.d (ints (dY a b))):=by
 refine con Tryz.func160 rfl rfl Tryz.call160 rfl fun hwf=>?_
 (repeat' ((conv=>whnf);first|refine gA ?_|(refine gB ?_ ?_<;>intro h)|refine gC (Cv a 196 [ints b] _ fun x=>xg x b) ?_|refine gC (mM (a.filter fun n=> !b.contains n)) ?_|intro _))<;>try (conv=>whnf)
 all_goals exact⟨rfl,rfl,trivial⟩
def qM (k:Nat) (x:Int):List Lit:=if x > 0 then [⟨1,k,x⟩] else []
def qN (d:Int) (k:Nat) (y:Int):List Lit:=if y < d - 1 then [⟨2,k,y⟩] else []
def fQ (k:Nat) (l:List Int):List Lit:=l.map fun n=>⟨4,k,n⟩
def lC (p:Proj) (b:Dom) (k:Nat):List Lit:=
 match p.acts[k]?,b.lo[k]?,b.hi[k]?,b.modes[k]? with
 |some a,some x,some y,some m=>qM k x++qN p.dead k y++fQ k (dY (aH a.modes.length) m)
 |_,_,_,_=>[]
def bJ (p:Proj) (b:Dom):Nat→List Lit
 |0=>[]
 |k+1=>bJ p b k++lC p b k
def iJ (p:Proj) (b:Dom):List Lit:=if aA p b=true then bJ p b p.acts.length else []
theorem mg {p:Proj} {b:Dom} {k:Nat} {a:aJ} {x y:Int} {m:List Int} (g:fB p b k a x y m):lC p b k=qM k x++qN p.dead k y++fQ k (dY (aH a.modes.length) m):=by
 simp only [lC,g.act,g.lo,g.hi,g.modes]
theorem AU (n:Int):(aH n).length≤200:=by
 unfold aH
 split
 ·rename_i h
  have:=within_iff.1 h
  simp;omega
 ·simp
theorem nJ (n:Int) (m:List Int):(dY (aH n) m).length≤200:=by
 have h1:=iQ ((aH n).filter fun n=> !m.contains n)
 have h2:=List.length_filter_le (fun n=> !m.contains n) (aH n)
 have h3:=AU n
 simp only [dY];omega
theorem Ja (p:Proj) (b:Dom) (k:Nat):(lC p b k).length≤202:=by
 unfold lC
 split
 ·rename_i a x y m _ _ _ _
  have:=nJ a.modes.length m
  have h1:(qM k x).length≤1:=by unfold qM;split<;>simp
  have h2:(qN p.dead k y).length≤1:=by unfold qN;split<;>simp
  simp only [List.length_append,fQ,List.length_map];omega
 ·simp
theorem ku (p:Proj) (b:Dom) (k:Nat):(bJ p b k).length≤202*k:=by
 induction k with
 |zero=>simp [bJ]
 |succ k ih=>
  have:=Ja p b k
  simp only [bJ,List.length_append];omega
theorem DR (p:Proj) (b:Dom):(iJ p b).length≤1212:=by
 unfold iJ
 split
 ·rename_i h
  have h1:=(eB (dw h).1).IV
  have h2:=ku p b p.acts.length
  omega
 ·simp
theorem qO {k j:Nat} {l:List Int} {n:Int} {o q:List Lit} (ho:o=q++fQ k (l.take j)) (hn:l[j]? =some n):o++[⟨4,(k:Int),n⟩]=q++fQ k (l.take (j+1)):=by
 obtain⟨hj,rfl⟩:=List.getElem?_eq_some_iff.1 hn
 rw [ho,List.take_succ_eq_append_getElem hj,fQ,fQ,List.map_append,List.append_assoc];rfl
theorem tX {k j:Nat} {l:List Int} {o q:List Lit} (ho:o=q++fQ k (l.take j)) (hn:l.length≤j):o=q++fQ k l:=by
 rw [ho,List.take_of_length_le hn]
theorem tY {k j:Nat} {l:List Int} {o q:List Lit} (ho:o=q++fQ k (l.take j)):o.length≤q.length+l.length:=by
 rw [ho];simp only [List.length_append,fQ,List.length_map,List.length_take];omega
theorem oD {p:Proj} {b:Dom} {k:Nat} {a:aJ} {x y:Int} {m:List Int} (g:fB p b k a x y m) {u v:List Lit} (hu:qM k x=u) (hv:qN p.dead k y=v):bJ p b k++u++v++fQ k (dY (aH a.modes.length) m)=bJ p b (k+1):=by
 rw [bJ,mg g,hu,hv];simp [List.append_assoc]
theorem xk (p:Proj) (b:Dom) (hp:p.fine):Con 114 [.d p.av,.d b.av] (.d (lits (iJ p b))):=by
 refine con Tryz.func114 rfl rfl Tryz.call114 rfl fun hwf=>?_
 simp only [ARs.wf,AR.wf,AV.wf,AV.wfs,lm,lim] at hwf
 cases hf:aA p b with
 |false=>
  (repeat' ((conv=>whnf);first|with_reducible refine Br.no hf ?_|with_reducible refine Br.yes hf ?_|refine gA ?_|(refine gB ?_ ?_<;>intro h)|(refine gI ?_;intro x hx)|(refine gJ ?_;intro j x hj hx)|refine gP ?_|refine gV ?_|refine gC (bC p b hp) ?_|intro _))<;>try (conv=>whnf)
  refine⟨?_,rfl,trivial⟩
  rw [iJ,if_neg (by rw [hf];exact Bool.false_ne_true)];rfl
 |true=>
  rw [iJ,if_pos hf]
  obtain⟨hpo,l1,l2,l3,_⟩:=dw hf
  have hna:=(eB hpo).IV
  have hde:=(eB hpo).dead
  (repeat' ((conv=>whnf);first|with_reducible refine Br.no hf ?_|with_reducible refine Br.yes hf ?_|refine gA ?_|(refine gB ?_ ?_<;>intro h)|(refine gI ?_;intro x hx)|(refine gJ ?_;intro j x hj hx)|refine gP ?_|refine gV ?_|refine gC (bC p b hp) ?_|intro _))<;>try (conv=>whnf)
  refine aC [2,3,16,17] [2,3] [14] ?_
  (conv=>whnf)
  refine aB.go ((Nat)) (fun k=>(k≤p.acts.length)) (fun k=>[(18,.data (i64 k)),(5,.own 14 0)]) (fun _=>[]) (fun k=>[(14,42,(bJ p b k).map Lit.av,0)]) (fun k=>p.acts.length - k) (0) ?_ ?_
  ·exact Nat.zero_le _
  rintro k hk
  by_cases hlt:k < p.acts.length
  rotate_left
  ·(repeat' ((conv=>whnf);first|(exfalso;omega)|refine gA ?_|(refine gB ?_ ?_<;>intro h)|(refine gI ?_;intro x hx)|(refine gJ ?_;intro j x hj hx)|refine gP ?_|refine gV ?_|intro _))<;>try (conv=>whnf)
   refine⟨?_,rfl,trivial⟩
   rw [show p.acts.length=k by omega]
  obtain⟨a,lo,up,m,g⟩:=fF hf hlt
  have hxb:=g.lob
  have hyb:=g.hib
  have hq0:=ku p b k
  (repeat' ((conv=>whnf);first|with_reducible refine Idx.got g.act rfl ?_|with_reducible refine Idx.got g.lo rfl ?_|with_reducible refine Idx.got g.hi rfl ?_|with_reducible refine Idx.got g.modes rfl ?_|refine gA ?_|(refine gB ?_ ?_<;>intro h)|(refine gI ?_;intro x hx)|(refine gJ ?_;intro j x hj hx)|refine gP ?_|refine gV ?_|refine gC (mI a) ?_|refine gC (yT (aH a.modes.length) m) ?_|intro _))<;>try (conv=>whnf)
  ·have hu:qM k lo= [⟨1,k,lo⟩]:=if_pos (by omega)
   have hv:qN p.dead k up= [⟨2,k,up⟩]:=if_pos (by omega)
   have hd:=nJ a.modes.length m
   have hq:=ku p b k
   have hnx:=oD g hu hv
   refine aC [2,3,6,16,17,18,65,66] [2,3] [14] ?_
   (conv=>whnf)
   refine aB.mk ((Nat)×(List Lit)) (fun⟨j,o⟩=>(j≤(dY (aH a.modes.length) m).length)∧(o=bJ p b k++[⟨1,k,lo⟩]++[⟨2,k,up⟩]++fQ k ((dY (aH a.modes.length) m).take j))) (fun⟨j,o⟩=>[(67,.data (i64 j)),(5,.own 14 0)]) (fun _=>[]) (fun⟨j,o⟩=>[(14,42,o.map Lit.av,0)]) (fun⟨j,o⟩=>(dY (aH a.modes.length) m).length - j) ⟨0,bJ p b k++[⟨1,k,lo⟩]++[⟨2,k,up⟩]⟩ ?_ ?_ ?_
   rotate_left
   ·(repeat' ((conv=>whnf)<;>(first|exact trivial|exact rfl|with_reducible refine And.intro ?_ ?_)))<;>((conv=>whnf)<;>(simp [Lit.av]))
   rotate_left
   ·exact⟨Nat.zero_le _,by simp [fQ]⟩
   rintro⟨j,o⟩ ⟨hj,ho⟩
   have hol:=tY ho
   (try simp only [List.length_append,List.length_cons,List.length_nil] at hol)
   (repeat' ((conv=>whnf);first|refine gA ?_|(refine gB ?_ ?_<;>intro h)|(refine gI ?_;intro x hx)|(refine gJ ?_;intro j x hj hx)|refine gP ?_|refine gV ?_|intro _))<;>try (conv=>whnf)
   ·refine nw ⟨j+1,o++[⟨4,k,x⟩]⟩ ?_ ?_
    ·(repeat' ((conv=>whnf)<;>(first|exact trivial|exact rfl|with_reducible refine And.intro ?_ ?_)))<;>((conv=>whnf)<;>(simp [Lit.av]))
    exact⟨by omega,qO ho hx⟩
   ·refine nw (k+1) ?_ ?_
    ·(repeat' ((conv=>whnf)<;>(first|exact trivial|exact rfl|with_reducible refine And.intro ?_ ?_)))<;>((conv=>whnf)<;>((rw [← hnx];simp [tX ho (by omega)])))
    exact (by omega:k+1≤p.acts.length)
  ·have hu:qM k lo= [⟨1,k,lo⟩]:=if_pos (by omega)
   have hv:qN p.dead k up= []:=if_neg (by omega)
   have hd:=nJ a.modes.length m
   have hq:=ku p b k
   have hnx:=oD g hu hv
   refine aC [2,3,6,16,17,18,65,66] [2,3] [14] ?_
   (conv=>whnf)
   refine aB.mk ((Nat)×(List Lit)) (fun⟨j,o⟩=>(j≤(dY (aH a.modes.length) m).length)∧(o=bJ p b k++[⟨1,k,lo⟩]++fQ k ((dY (aH a.modes.length) m).take j))) (fun⟨j,o⟩=>[(67,.data (i64 j)),(5,.own 14 0)]) (fun _=>[]) (fun⟨j,o⟩=>[(14,42,o.map Lit.av,0)]) (fun⟨j,o⟩=>(dY (aH a.modes.length) m).length - j) ⟨0,bJ p b k++[⟨1,k,lo⟩]⟩ ?_ ?_ ?_
   rotate_left
   ·(repeat' ((conv=>whnf)<;>(first|exact trivial|exact rfl|with_reducible refine And.intro ?_ ?_)))<;>((conv=>whnf)<;>(simp [Lit.av]))
   rotate_left
   ·exact⟨Nat.zero_le _,by simp [fQ]⟩
   rintro⟨j,o⟩ ⟨hj,ho⟩
   have hol:=tY ho
   (try simp only [List.length_append,List.length_cons,List.length_nil] at hol)
   (repeat' ((conv=>whnf);first|refine gA ?_|(refine gB ?_ ?_<;>intro h)|(refine gI ?_;intro x hx)|(refine gJ ?_;intro j x hj hx)|refine gP ?_|refine gV ?_|intro _))<;>try (conv=>whnf)
   ·refine nw ⟨j+1,o++[⟨4,k,x⟩]⟩ ?_ ?_
    ·(repeat' ((conv=>whnf)<;>(first|exact trivial|exact rfl|with_reducible refine And.intro ?_ ?_)))<;>((conv=>whnf)<;>(simp [Lit.av]))
    exact⟨by omega,qO ho hx⟩
   ·refine nw (k+1) ?_ ?_
    ·(repeat' ((conv=>whnf)<;>(first|exact trivial|exact rfl|with_reducible refine And.intro ?_ ?_)))<;>((conv=>whnf)<;>((rw [← hnx];simp [tX ho (by omega)])))
    exact (by omega:k+1≤p.acts.length)
  ·have hu:qM k lo= []:=if_neg (by omega)
   have hv:qN p.dead k up= [⟨2,k,up⟩]:=if_pos (by omega)
   have hd:=nJ a.modes.length m
   have hq:=ku p b k
   have hnx:=oD g hu hv
   refine aC [2,3,6,16,17,18,65,66] [2,3] [14] ?_
   (conv=>whnf)
   refine aB.mk ((Nat)×(List Lit)) (fun⟨j,o⟩=>(j≤(dY (aH a.modes.length) m).length)∧(o=bJ p b k++[⟨2,k,up⟩]++fQ k ((dY (aH a.modes.length) m).take j))) (fun⟨j,o⟩=>[(67,.data (i64 j)),(5,.own 14 0)]) (fun _=>[]) (fun⟨j,o⟩=>[(14,42,o.map Lit.av,0)]) (fun⟨j,o⟩=>(dY (aH a.modes.length) m).length - j) ⟨0,bJ p b k++[⟨2,k,up⟩]⟩ ?_ ?_ ?_
   rotate_left
   ·(repeat' ((conv=>whnf)<;>(first|exact trivial|exact rfl|with_reducible refine And.intro ?_ ?_)))<;>((conv=>whnf)<;>(simp [Lit.av]))
   rotate_left
   ·exact⟨Nat.zero_le _,by simp [fQ]⟩
   rintro⟨j,o⟩ ⟨hj,ho⟩
   have hol:=tY ho
   (try simp only [List.length_append,List.length_cons,List.length_nil] at hol)
   (repeat' ((conv=>whnf);first|refine gA ?_|(refine gB ?_ ?_<;>intro h)|(refine gI ?_;intro x hx)|(refine gJ ?_;intro j x hj hx)|refine gP ?_|refine gV ?_|intro _))<;>try (conv=>whnf)
   ·refine nw ⟨j+1,o++[⟨4,k,x⟩]⟩ ?_ ?_
    ·(repeat' ((conv=>whnf)<;>(first|exact trivial|exact rfl|with_reducible refine And.intro ?_ ?_)))<;>((conv=>whnf)<;>(simp [Lit.av]))
    exact⟨by omega,qO ho hx⟩
   ·refine nw (k+1) ?_ ?_
    ·(repeat' ((conv=>whnf)<;>(first|exact trivial|exact rfl|with_reducible refine And.intro ?_ ?_)))<;>((conv=>whnf)<;>((rw [← hnx];simp [tX ho (by omega)])))
    exact (by omega:k+1≤p.acts.length)
  ·have hu:qM k lo= []:=if_neg (by omega)
   have hv:qN p.dead k up= []:=if_neg (by omega)
   have hd:=nJ a.modes.length m
   have hq:=ku p b k
   have hnx:=oD g hu hv
   refine aC [2,3,6,16,17,18,65,66] [2,3] [14] ?_
   (conv=>whnf)
   refine aB.mk ((Nat)×(List Lit)) (fun⟨j,o⟩=>(j≤(dY (aH a.modes.length) m).length)∧(o=bJ p b k++fQ k ((dY (aH a.modes.length) m).take j))) (fun⟨j,o⟩=>[(67,.data (i64 j)),(5,.own 14 0)]) (fun _=>[]) (fun⟨j,o⟩=>[(14,42,o.map Lit.av,0)]) (fun⟨j,o⟩=>(dY (aH a.modes.length) m).length - j) ⟨0,bJ p b k⟩ ?_ ?_ ?_
   rotate_left
   ·(repeat' ((conv=>whnf)<;>(first|exact trivial|exact rfl|with_reducible refine And.intro ?_ ?_)))<;>((conv=>whnf)<;>(simp [Lit.av]))
   rotate_left
   ·exact⟨Nat.zero_le _,by simp [fQ]⟩
   rintro⟨j,o⟩ ⟨hj,ho⟩
   have hol:=tY ho
   (try simp only [List.length_append,List.length_cons,List.length_nil] at hol)
   (repeat' ((conv=>whnf);first|refine gA ?_|(refine gB ?_ ?_<;>intro h)|(refine gI ?_;intro x hx)|(refine gJ ?_;intro j x hj hx)|refine gP ?_|refine gV ?_|intro _))<;>try (conv=>whnf)
   ·refine nw ⟨j+1,o++[⟨4,k,x⟩]⟩ ?_ ?_
    ·(repeat' ((conv=>whnf)<;>(first|exact trivial|exact rfl|with_reducible refine And.intro ?_ ?_)))<;>((conv=>whnf)<;>(simp [Lit.av]))
    exact⟨by omega,qO ho hx⟩
   ·refine nw (k+1) ?_ ?_
    ·(repeat' ((conv=>whnf)<;>(first|exact trivial|exact rfl|with_reducible refine And.intro ?_ ?_)))<;>((conv=>whnf)<;>((rw [← hnx];simp [tX ho (by omega)])))
    exact (by omega:k+1≤p.acts.length)
  ·exact trivial
def qb (p:Proj) (b:Dom):List Lit:=(iJ p b).map negate
theorem Vi (p:Proj) (b:Dom):(iJ p b).map (fun x=>(negate x).av)=(qb p b).map Lit.av:=by rw [qb,List.map_map];rfl
theorem vT (p:Proj) (b:Dom) (hp:p.fine):Con 43 [.d p.av,.d b.av] (.own 42 ((qb p b).map Lit.av)):=by
 refine con Tryz.func43 rfl rfl Tryz.call43 rfl fun hwf=>?_
 have hd:=DR p b
 (repeat' ((conv=>whnf);first|refine gA ?_|(refine gB ?_ ?_<;>intro h)|(refine gI ?_;intro x hx)|(refine gJ ?_;intro j x hj hx)|refine gP ?_|refine gV ?_|refine gC (xk p b hp) ?_|intro _))<;>try (conv=>whnf)
 refine aC [11,12] [] [8] ?_
 (conv=>whnf)
 refine aB.go ((Nat)) (fun k=>(k≤(iJ p b).length)) (fun k=>[(13,.data (i64 k)),(5,.own 8 0)]) (fun _=>[]) (fun k=>[(8,42,((iJ p b).take k).map (fun x=>(negate x).av),0)]) (fun k=>(iJ p b).length - k) (0) ?_ ?_
 ·exact Nat.zero_le _
 rintro k hk
 (repeat' ((conv=>whnf);first|refine gA ?_|(refine gB ?_ ?_<;>intro h)|(refine gI ?_;intro x hx)|(refine gJ ?_;intro j x hj hx)|refine gP ?_|refine gV ?_|refine gC (qH x) ?_|intro _))<;>try (conv=>whnf)
 ·refine nw (k+1) ?_ ?_
  ·(repeat' ((conv=>whnf)<;>(first|exact trivial|exact rfl|with_reducible refine And.intro ?_ ?_)))<;>((conv=>whnf)<;>(exact jr _ hx))
  exact (by omega:k+1≤(iJ p b).length)
 ·(repeat' ((conv=>whnf)<;>(first|exact trivial|exact VC.nod (by kernel_rfl)|refine VC.mk rfl ?_|refine VC.mk (by dsimp only;rw [List.take_of_length_le (by omega),Vi]) ?_)))
theorem LZ {p:Proj} {b:Dom} {r:Rul} (h:refutes p b r=true):aA p b=true:=by
 simp only [refutes,Bool.and_eq_true] at h
 exact h.1
end Go.Proofs.YtjfnojijdggfhaaGreat.Abs
