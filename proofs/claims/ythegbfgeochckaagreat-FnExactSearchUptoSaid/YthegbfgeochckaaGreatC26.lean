/- Part of a proof. -/
import Derived.Test.YthegbfgeochckaaGreatNd
set_option linter.all false
set_option maxRecDepth 20000
set_option maxHeartbeats 0
namespace Go.Proofs.YthegbfgeochckaaGreat.Abs
open Go.Proofs
def dL (a b:List Int):List Int:=setOf (a.filter fun n=> !b.contains n)
theorem Ey (k:Int) (b:List Int):Con 377 [.d (i64 k),.ref (ints b)] (.d (.bool (!b.contains k))):=by
 refine con Tryz.func377 rfl rfl Tryz.call377 rfl fun hwf=>?_
 (repeat' ((conv=>whnf);first|refine gA ?_|refine gC (xL b k) ?_|intro _))
 all_goals exact⟨rfl,rfl,trivial⟩
theorem GD (a b:List Int):Con 353 [.d (ints a),.d (ints b)] (.d (ints (dL a b))):=by
 refine con Tryz.func353 rfl rfl Tryz.call353 rfl fun hwf=>?_
 (repeat' ((conv=>whnf);first|refine gA ?_|refine gC (Ko a 377 [ints b] _ fun x=>Ey x b) ?_|refine gC (tq (a.filter fun n=> !b.contains n)) ?_|intro _))
 all_goals exact⟨rfl,rfl,trivial⟩
theorem GH (a b:List Int):Con 331 [.d (ints a),.d (ints b)] (.d (ints (dL a b))):=by
 refine con Tryz.func331 rfl rfl Tryz.call331 rfl fun hwf=>?_
 simp only [ARs.wf,AR.wf,AV.wf,AV.wfs,lm,lim] at hwf
 try (conv=>whnf)
 refine ay [1,9,10] [] [8] ?_
 (conv=>whnf)
 refine au.go ((Nat)×(List Int)) (fun⟨k,o⟩=>(k<=a.length)/\(o.length<=k)/\(o++(a.drop k).filter (fun n=> !b.contains n)=a.filter (fun n=> !b.contains n))) (fun⟨k,o⟩=>[(11,.data (i64 k)),(5,.own 8 0)]) lE (fun⟨k,o⟩=>[(8,3,o.map i64,0)]) (fun⟨k,o⟩=>a.length - k) ⟨0,[]⟩ ?_ ?_
 ·exact⟨by omega,by simp,rfl⟩
 rintro⟨k,o⟩ ⟨hk,ho,hi⟩
 (repeat' ((conv=>whnf);first|refine gAX ?_|(refine gB ?_ ?_<;>intro h)|(refine gI ?_;intro x hx)|refine gC (gT _ _) ?_|refine gC (sU o) ?_|intro _))<;>try (conv=>whnf)
 ·refine nx ⟨k+1,o⟩ ?_
  exact⟨by omega,by omega,(jK hi hx).2 (by simp only [h];rfl)⟩
 ·refine nwS ⟨k+1,o++[x]⟩ ?_
  exact⟨by omega,by simp;omega,(jK hi hx).1 (by simp only [h];rfl)⟩
 ·refine⟨?_,rfl,trivial⟩
  rw [dL, <- hi,aG (by assumption)];simp
def yc (k:Nat) (x:Int):List Lit:=if x > 0 then [⟨1,k,x⟩] else []
def yg (d:Int) (k:Nat) (y:Int):List Lit:=if y < d - 1 then [⟨2,k,y⟩] else []
def iE (k:Nat) (l:List Int):List Lit:=l.map fun n=>⟨4,k,n⟩
def zG (p:Proj) (b:Dom) (k:Nat):List Lit:=
 match p.acts[k]?,b.lo[k]?,b.hi[k]?,b.modes[k]? with
 |some a,some x,some y,some m=>yc k x++yg p.dead k y++iE k (dL (aT a.modes.length) m)
 |_,_,_,_=>[]
def cB (p:Proj) (b:Dom):Nat->List Lit
 |0=>[]
 |k+1=>cB p b k++zG p b k
def jG (p:Proj) (b:Dom):List Lit:=if aW p b=true then cB p b p.acts.length else []
theorem Jh {p:Proj} {b:Dom} {k:Nat} {a:aB} {x y:Int} {m:List Int} (g:eG p b k a x y m):zG p b k=yc k x++yg p.dead k y++iE k (dL (aT a.modes.length) m):=by
 simp only [zG,g.act,g.lo,g.hi,g.modes]
theorem Ji (n:Int):(aT n).length<=200:=by
 unfold aT
 split
 ·rename_i h
  have:=within_iff.1 h
  simp;omega
 ·simp
theorem lu (n:Int) (m:List Int):(dL (aT n) m).length<=200:=by
 have h1:=iI ((aT n).filter fun n=> !m.contains n)
 have h2:=List.length_filter_le (fun n=> !m.contains n) (aT n)
 have h3:=Ji n
 simp only [dL];omega
theorem Rc (p:Proj) (b:Dom) (k:Nat):(zG p b k).length<=202:=by
 unfold zG
 split
 ·rename_i a x y m _ _ _ _
  have:=lu a.modes.length m
  have h1:(yc k x).length<=1:=by unfold yc;split<;>simp
  have h2:(yg p.dead k y).length<=1:=by unfold yg;split<;>simp
  simp only [List.length_append,iE,List.length_map];omega
 ·simp
theorem iF (p:Proj) (b:Dom) (k:Nat):(cB p b k).length<=202*k:=by
 induction k with
 |zero=>simp [cB]
 |succ k ih=>
  have:=Rc p b k
  simp only [cB,List.length_append];omega
theorem CZ (p:Proj) (b:Dom):(jG p b).length<=1212:=by
 unfold jG
 split
 ·rename_i h
  have h1:=(bX (bA h).1).Cy
  have h2:=iF p b p.acts.length
  omega
 ·simp
theorem mM {k j:Nat} {l:List Int} {n:Int} {o q:List Lit} (ho:o=q++iE k (l.take j)) (hn:l[j]? =some n):o++[⟨4,(k:Int),n⟩]=q++iE k (l.take (j+1)):=by
 obtain⟨hj,rfl⟩:=List.getElem?_eq_some_iff.1 hn
 rw [ho,List.take_succ_eq_append_getElem hj,iE,iE,List.map_append,List.append_assoc];rfl
theorem oD {k j:Nat} {l:List Int} {o q:List Lit} (ho:o=q++iE k (l.take j)) (hn:l.length<=j):o=q++iE k l:=by
 rw [ho,List.take_of_length_le hn]
theorem oF {k j:Nat} {l:List Int} {o q:List Lit} (ho:o=q++iE k (l.take j)):o.length<=q.length+l.length:=by
 rw [ho];simp only [List.length_append,iE,List.length_map,List.length_take];omega
theorem lC {p:Proj} {b:Dom} {k:Nat} {a:aB} {x y:Int} {m:List Int} (g:eG p b k a x y m) {u v:List Lit} (hu:yc k x=u) (hv:yg p.dead k y=v):cB p b k++u++v++iE k (dL (aT a.modes.length) m)=cB p b (k+1):=by
 rw [cB,Jh g,hu,hv];simp [List.append_assoc]
theorem Ez (p:Proj) (b:Dom) (hp:p.fine):Con 301 [.d p.av,.d b.av] (.d (lits (jG p b))):=by
 refine con Tryz.func301 rfl rfl Tryz.call301 rfl fun hwf=>?_
 cases hf:aW p b with
 |false=>
  (repeat' ((conv=>whnf);first|with_reducible refine Br.no hf ?_|refine gA ?_|refine gC (bD p b hp) ?_|intro _))
  refine⟨?_,rfl,trivial⟩
  rw [jG,if_neg (by rw [hf];exact Bool.false_ne_true)];rfl
 |true=>
  rw [jG,if_pos hf]
  obtain⟨hpo,l1,l2,l3,_⟩:=bA hf
  have hna:=(bX hpo).Cy
  have hde:=(bX hpo).dead
  (repeat' ((conv=>whnf);first|with_reducible refine Br.yes hf ?_|refine gA ?_|refine gC (bD p b hp) ?_|intro _))
  refine ay [2,3,16,17] [2,3] [14] ?_
  (conv=>whnf)
  refine au.go ((Nat)) (fun k=>(k<=p.acts.length)) (fun k=>[(18,.data (i64 k)),(5,.own 14 0)]) lE (fun k=>[(14,102,(cB p b k).map Lit.av,0)]) (fun k=>p.acts.length - k) (0) ?_ ?_
  ·exact Nat.zero_le _
  rintro k hk
  by_cases hlt:k < p.acts.length
  rotate_left
  ·(repeat' ((conv=>whnf);first|(exfalso;omega)|(refine gB ?_ ?_<;>intro h)))
   refine⟨?_,rfl,trivial⟩
   rw [show p.acts.length=k by omega]
  obtain⟨a,lo,up,m,g⟩:=dN hf hlt
  have hxb:=g.lob
  have hyb:=g.hib
  have hq0:=iF p b k
  (repeat' ((conv=>whnf);first|(with_reducible first|refine Idx.got g.act rfl ?_|refine Idx.got g.lo rfl ?_|refine Idx.got g.hi rfl ?_|refine Idx.got g.modes rfl ?_)|refine gAX ?_|(refine gB ?_ ?_<;>intro h)|refine gC (sQ a) ?_|refine gC (GD (aT a.modes.length) m) ?_|intro _))
  ·have hu:yc k lo= [⟨1,k,lo⟩]:=if_pos (by omega)
   have hv:yg p.dead k up= [⟨2,k,up⟩]:=if_pos (by omega)
   have hd:=lu a.modes.length m
   have hq:=iF p b k
   have hnx:=lC g hu hv
   refine ay [2,3,6,16,17,18,65,66] [2,3] [14] ?_
   (conv=>whnf)
   refine au.mk ((Nat)×(List Lit)) (fun⟨j,o⟩=>(j<=(dL (aT a.modes.length) m).length)/\(o=cB p b k++[⟨1,k,lo⟩]++[⟨2,k,up⟩]++iE k ((dL (aT a.modes.length) m).take j))) (fun⟨j,o⟩=>[(67,.data (i64 j)),(5,.own 14 0)]) lE (fun⟨j,o⟩=>[(14,102,o.map Lit.av,0)]) (fun⟨j,o⟩=>(dL (aT a.modes.length) m).length - j) ⟨0,cB p b k++[⟨1,k,lo⟩]++[⟨2,k,up⟩]⟩ ?_ ?_ ?_
   rotate_left
   ·(repeat' ((conv=>whnf)<;>(first|exact trivial|exact rfl|with_reducible refine And.intro ?_ ?_)))<;>((conv=>whnf)<;>(simp [Lit.av]))
   rotate_left
   ·exact⟨Nat.zero_le _,by simp [iE]⟩
   rintro⟨j,o⟩ ⟨hj,ho⟩
   have hol:=oF ho
   (try simp only [List.length_append,List.length_cons,List.length_nil] at hol)
   (repeat' ((conv=>whnf);first|refine gAX ?_|(refine gB ?_ ?_<;>intro h)|(refine gI ?_;intro x hx)))
   ·refine nwL ⟨j+1,o++[⟨4,k,x⟩]⟩ ?_
    exact⟨by omega,mM ho hx⟩
   ·refine nw (k+1) ?_ ?_
    ·(repeat' ((conv=>whnf)<;>(first|exact trivial|exact rfl|with_reducible refine And.intro ?_ ?_)))<;>((conv=>whnf)<;>((rw [<- hnx];simp [oD ho (by omega)])))
    exact (by omega:k+1<=p.acts.length)
  ·have hu:yc k lo= [⟨1,k,lo⟩]:=if_pos (by omega)
   have hv:yg p.dead k up= []:=if_neg (by omega)
   have hd:=lu a.modes.length m
   have hq:=iF p b k
   have hnx:=lC g hu hv
   refine ay [2,3,6,16,17,18,65,66] [2,3] [14] ?_
   (conv=>whnf)
   refine au.mk ((Nat)×(List Lit)) (fun⟨j,o⟩=>(j<=(dL (aT a.modes.length) m).length)/\(o=cB p b k++[⟨1,k,lo⟩]++iE k ((dL (aT a.modes.length) m).take j))) (fun⟨j,o⟩=>[(67,.data (i64 j)),(5,.own 14 0)]) lE (fun⟨j,o⟩=>[(14,102,o.map Lit.av,0)]) (fun⟨j,o⟩=>(dL (aT a.modes.length) m).length - j) ⟨0,cB p b k++[⟨1,k,lo⟩]⟩ ?_ ?_ ?_
   rotate_left
   ·(repeat' ((conv=>whnf)<;>(first|exact trivial|exact rfl|with_reducible refine And.intro ?_ ?_)))<;>((conv=>whnf)<;>(simp [Lit.av]))
   rotate_left
   ·exact⟨Nat.zero_le _,by simp [iE]⟩
   rintro⟨j,o⟩ ⟨hj,ho⟩
   have hol:=oF ho
   (try simp only [List.length_append,List.length_cons,List.length_nil] at hol)
   (repeat' ((conv=>whnf);first|refine gAX ?_|(refine gB ?_ ?_<;>intro h)|(refine gI ?_;intro x hx)))
   ·refine nwL ⟨j+1,o++[⟨4,k,x⟩]⟩ ?_
    exact⟨by omega,mM ho hx⟩
   ·refine nw (k+1) ?_ ?_
    ·(repeat' ((conv=>whnf)<;>(first|exact trivial|exact rfl|with_reducible refine And.intro ?_ ?_)))<;>((conv=>whnf)<;>((rw [<- hnx];simp [oD ho (by omega)])))
    exact (by omega:k+1<=p.acts.length)
  ·have hu:yc k lo= []:=if_neg (by omega)
   have hv:yg p.dead k up= [⟨2,k,up⟩]:=if_pos (by omega)
   have hd:=lu a.modes.length m
   have hq:=iF p b k
   have hnx:=lC g hu hv
   refine ay [2,3,6,16,17,18,65,66] [2,3] [14] ?_
   (conv=>whnf)
   refine au.mk ((Nat)×(List Lit)) (fun⟨j,o⟩=>(j<=(dL (aT a.modes.length) m).length)/\(o=cB p b k++[⟨2,k,up⟩]++iE k ((dL (aT a.modes.length) m).take j))) (fun⟨j,o⟩=>[(67,.data (i64 j)),(5,.own 14 0)]) lE (fun⟨j,o⟩=>[(14,102,o.map Lit.av,0)]) (fun⟨j,o⟩=>(dL (aT a.modes.length) m).length - j) ⟨0,cB p b k++[⟨2,k,up⟩]⟩ ?_ ?_ ?_
   rotate_left
   ·(repeat' ((conv=>whnf)<;>(first|exact trivial|exact rfl|with_reducible refine And.intro ?_ ?_)))<;>((conv=>whnf)<;>(simp [Lit.av]))
   rotate_left
   ·exact⟨Nat.zero_le _,by simp [iE]⟩
   rintro⟨j,o⟩ ⟨hj,ho⟩
   have hol:=oF ho
   (try simp only [List.length_append,List.length_cons,List.length_nil] at hol)
   (repeat' ((conv=>whnf);first|refine gAX ?_|(refine gB ?_ ?_<;>intro h)|(refine gI ?_;intro x hx)))
   ·refine nwL ⟨j+1,o++[⟨4,k,x⟩]⟩ ?_
    exact⟨by omega,mM ho hx⟩
   ·refine nw (k+1) ?_ ?_
    ·(repeat' ((conv=>whnf)<;>(first|exact trivial|exact rfl|with_reducible refine And.intro ?_ ?_)))<;>((conv=>whnf)<;>((rw [<- hnx];simp [oD ho (by omega)])))
    exact (by omega:k+1<=p.acts.length)
  ·have hu:yc k lo= []:=if_neg (by omega)
   have hv:yg p.dead k up= []:=if_neg (by omega)
   have hd:=lu a.modes.length m
   have hq:=iF p b k
   have hnx:=lC g hu hv
   refine ay [2,3,6,16,17,18,65,66] [2,3] [14] ?_
   (conv=>whnf)
   refine au.mk ((Nat)×(List Lit)) (fun⟨j,o⟩=>(j<=(dL (aT a.modes.length) m).length)/\(o=cB p b k++iE k ((dL (aT a.modes.length) m).take j))) (fun⟨j,o⟩=>[(67,.data (i64 j)),(5,.own 14 0)]) lE (fun⟨j,o⟩=>[(14,102,o.map Lit.av,0)]) (fun⟨j,o⟩=>(dL (aT a.modes.length) m).length - j) ⟨0,cB p b k⟩ ?_ ?_ ?_
   rotate_left
   ·(repeat' ((conv=>whnf)<;>(first|exact trivial|exact rfl|with_reducible refine And.intro ?_ ?_)))<;>((conv=>whnf)<;>(simp [Lit.av]))
   rotate_left
   ·exact⟨Nat.zero_le _,by simp [iE]⟩
   rintro⟨j,o⟩ ⟨hj,ho⟩
   have hol:=oF ho
   (try simp only [List.length_append,List.length_cons,List.length_nil] at hol)
   (repeat' ((conv=>whnf);first|refine gAX ?_|(refine gB ?_ ?_<;>intro h)|(refine gI ?_;intro x hx)))
   ·refine nwL ⟨j+1,o++[⟨4,k,x⟩]⟩ ?_
    exact⟨by omega,mM ho hx⟩
   ·refine nw (k+1) ?_ ?_
    ·(repeat' ((conv=>whnf)<;>(first|exact trivial|exact rfl|with_reducible refine And.intro ?_ ?_)))<;>((conv=>whnf)<;>((rw [<- hnx];simp [oD ho (by omega)])))
    exact (by omega:k+1<=p.acts.length)
  ·exact trivial
theorem EA (p:Proj) (b:Dom) (hp:p.fine):Con 273 [.d p.av,.d b.av] (.d (lits (jG p b))):=by
 refine con Tryz.func273 rfl rfl Tryz.call273 rfl fun hwf=>?_
 cases hf:aW p b with
 |false=>
  (repeat' ((conv=>whnf);first|with_reducible refine Br.no hf ?_|refine gA ?_|refine gC (dH p b hp) ?_|intro _))
  refine⟨?_,rfl,trivial⟩
  rw [jG,if_neg (by rw [hf];exact Bool.false_ne_true)];rfl
 |true=>
  rw [jG,if_pos hf]
  obtain⟨hpo,l1,l2,l3,_⟩:=bA hf
  have hna:=(bX hpo).Cy
  have hde:=(bX hpo).dead
  (repeat' ((conv=>whnf);first|with_reducible refine Br.yes hf ?_|refine gA ?_|refine gC (dH p b hp) ?_|intro _))
  refine ay [2,3,16,17] [2,3] [10] ?_
  (conv=>whnf)
  refine au.go ((Nat)) (fun k=>(k<=p.acts.length)) (fun k=>[(18,.data (i64 k)),(5,.own 10 0)]) lE (fun k=>[(10,102,(cB p b k).map Lit.av,0)]) (fun k=>p.acts.length - k) (0) ?_ ?_
  ·exact Nat.zero_le _
  rintro k hk
  by_cases hlt:k < p.acts.length
  rotate_left
  ·(repeat' ((conv=>whnf);first|(exfalso;omega)|(refine gB ?_ ?_<;>intro h)))
   refine⟨?_,rfl,trivial⟩
   rw [show p.acts.length=k by omega]
  obtain⟨a,lo,up,m,g⟩:=dN hf hlt
  have hxb:=g.lob
  have hyb:=g.hib
  have hq0:=iF p b k
  (repeat' ((conv=>whnf);first|(with_reducible first|refine Idx.got g.act rfl ?_|refine Idx.got g.lo rfl ?_|refine Idx.got g.hi rfl ?_|refine Idx.got g.modes rfl ?_)|refine gAX ?_|(refine gB ?_ ?_<;>intro h)|refine gC (sS a) ?_|refine gC (GH (aT a.modes.length) m) ?_|intro _))
  ·have hu:yc k lo= [⟨1,k,lo⟩]:=if_pos (by omega)
   have hv:yg p.dead k up= [⟨2,k,up⟩]:=if_pos (by omega)
   have hd:=lu a.modes.length m
   have hq:=iF p b k
   have hnx:=lC g hu hv
   refine ay [2,3,6,16,17,18,65,66] [2,3] [10] ?_
   (conv=>whnf)
   refine au.mk ((Nat)×(List Lit)) (fun⟨j,o⟩=>(j<=(dL (aT a.modes.length) m).length)/\(o=cB p b k++[⟨1,k,lo⟩]++[⟨2,k,up⟩]++iE k ((dL (aT a.modes.length) m).take j))) (fun⟨j,o⟩=>[(67,.data (i64 j)),(5,.own 10 0)]) lE (fun⟨j,o⟩=>[(10,102,o.map Lit.av,0)]) (fun⟨j,o⟩=>(dL (aT a.modes.length) m).length - j) ⟨0,cB p b k++[⟨1,k,lo⟩]++[⟨2,k,up⟩]⟩ ?_ ?_ ?_
   rotate_left
   ·(repeat' ((conv=>whnf)<;>(first|exact trivial|exact rfl|with_reducible refine And.intro ?_ ?_)))<;>((conv=>whnf)<;>(simp [Lit.av]))
   rotate_left
   ·exact⟨Nat.zero_le _,by simp [iE]⟩
   rintro⟨j,o⟩ ⟨hj,ho⟩
   have hol:=oF ho
   (try simp only [List.length_append,List.length_cons,List.length_nil] at hol)
   (repeat' ((conv=>whnf);first|refine gAX ?_|(refine gB ?_ ?_<;>intro h)|(refine gI ?_;intro x hx)))
   ·refine nwL ⟨j+1,o++[⟨4,k,x⟩]⟩ ?_
    exact⟨by omega,mM ho hx⟩
   ·refine nw (k+1) ?_ ?_
    ·(repeat' ((conv=>whnf)<;>(first|exact trivial|exact rfl|with_reducible refine And.intro ?_ ?_)))<;>((conv=>whnf)<;>((rw [<- hnx];simp [oD ho (by omega)])))
    exact (by omega:k+1<=p.acts.length)
  ·have hu:yc k lo= [⟨1,k,lo⟩]:=if_pos (by omega)
   have hv:yg p.dead k up= []:=if_neg (by omega)
   have hd:=lu a.modes.length m
   have hq:=iF p b k
   have hnx:=lC g hu hv
   refine ay [2,3,6,16,17,18,65,66] [2,3] [10] ?_
   (conv=>whnf)
   refine au.mk ((Nat)×(List Lit)) (fun⟨j,o⟩=>(j<=(dL (aT a.modes.length) m).length)/\(o=cB p b k++[⟨1,k,lo⟩]++iE k ((dL (aT a.modes.length) m).take j))) (fun⟨j,o⟩=>[(67,.data (i64 j)),(5,.own 10 0)]) lE (fun⟨j,o⟩=>[(10,102,o.map Lit.av,0)]) (fun⟨j,o⟩=>(dL (aT a.modes.length) m).length - j) ⟨0,cB p b k++[⟨1,k,lo⟩]⟩ ?_ ?_ ?_
   rotate_left
   ·(repeat' ((conv=>whnf)<;>(first|exact trivial|exact rfl|with_reducible refine And.intro ?_ ?_)))<;>((conv=>whnf)<;>(simp [Lit.av]))
   rotate_left
   ·exact⟨Nat.zero_le _,by simp [iE]⟩
   rintro⟨j,o⟩ ⟨hj,ho⟩
   have hol:=oF ho
   (try simp only [List.length_append,List.length_cons,List.length_nil] at hol)
   (repeat' ((conv=>whnf);first|refine gAX ?_|(refine gB ?_ ?_<;>intro h)|(refine gI ?_;intro x hx)))
   ·refine nwL ⟨j+1,o++[⟨4,k,x⟩]⟩ ?_
    exact⟨by omega,mM ho hx⟩
   ·refine nw (k+1) ?_ ?_
    ·(repeat' ((conv=>whnf)<;>(first|exact trivial|exact rfl|with_reducible refine And.intro ?_ ?_)))<;>((conv=>whnf)<;>((rw [<- hnx];simp [oD ho (by omega)])))
    exact (by omega:k+1<=p.acts.length)
  ·have hu:yc k lo= []:=if_neg (by omega)
   have hv:yg p.dead k up= [⟨2,k,up⟩]:=if_pos (by omega)
   have hd:=lu a.modes.length m
   have hq:=iF p b k
   have hnx:=lC g hu hv
   refine ay [2,3,6,16,17,18,65,66] [2,3] [10] ?_
   (conv=>whnf)
   refine au.mk ((Nat)×(List Lit)) (fun⟨j,o⟩=>(j<=(dL (aT a.modes.length) m).length)/\(o=cB p b k++[⟨2,k,up⟩]++iE k ((dL (aT a.modes.length) m).take j))) (fun⟨j,o⟩=>[(67,.data (i64 j)),(5,.own 10 0)]) lE (fun⟨j,o⟩=>[(10,102,o.map Lit.av,0)]) (fun⟨j,o⟩=>(dL (aT a.modes.length) m).length - j) ⟨0,cB p b k++[⟨2,k,up⟩]⟩ ?_ ?_ ?_
   rotate_left
   ·(repeat' ((conv=>whnf)<;>(first|exact trivial|exact rfl|with_reducible refine And.intro ?_ ?_)))<;>((conv=>whnf)<;>(simp [Lit.av]))
   rotate_left
   ·exact⟨Nat.zero_le _,by simp [iE]⟩
   rintro⟨j,o⟩ ⟨hj,ho⟩
   have hol:=oF ho
   (try simp only [List.length_append,List.length_cons,List.length_nil] at hol)
   (repeat' ((conv=>whnf);first|refine gAX ?_|(refine gB ?_ ?_<;>intro h)|(refine gI ?_;intro x hx)))
   ·refine nwL ⟨j+1,o++[⟨4,k,x⟩]⟩ ?_
    exact⟨by omega,mM ho hx⟩
   ·refine nw (k+1) ?_ ?_
    ·(repeat' ((conv=>whnf)<;>(first|exact trivial|exact rfl|with_reducible refine And.intro ?_ ?_)))<;>((conv=>whnf)<;>((rw [<- hnx];simp [oD ho (by omega)])))
    exact (by omega:k+1<=p.acts.length)
  ·have hu:yc k lo= []:=if_neg (by omega)
   have hv:yg p.dead k up= []:=if_neg (by omega)
   have hd:=lu a.modes.length m
   have hq:=iF p b k
   have hnx:=lC g hu hv
   refine ay [2,3,6,16,17,18,65,66] [2,3] [10] ?_
   (conv=>whnf)
   refine au.mk ((Nat)×(List Lit)) (fun⟨j,o⟩=>(j<=(dL (aT a.modes.length) m).length)/\(o=cB p b k++iE k ((dL (aT a.modes.length) m).take j))) (fun⟨j,o⟩=>[(67,.data (i64 j)),(5,.own 10 0)]) lE (fun⟨j,o⟩=>[(10,102,o.map Lit.av,0)]) (fun⟨j,o⟩=>(dL (aT a.modes.length) m).length - j) ⟨0,cB p b k⟩ ?_ ?_ ?_
   rotate_left
   ·(repeat' ((conv=>whnf)<;>(first|exact trivial|exact rfl|with_reducible refine And.intro ?_ ?_)))<;>((conv=>whnf)<;>(simp [Lit.av]))
   rotate_left
   ·exact⟨Nat.zero_le _,by simp [iE]⟩
   rintro⟨j,o⟩ ⟨hj,ho⟩
   have hol:=oF ho
   (try simp only [List.length_append,List.length_cons,List.length_nil] at hol)
   (repeat' ((conv=>whnf);first|refine gAX ?_|(refine gB ?_ ?_<;>intro h)|(refine gI ?_;intro x hx)))
   ·refine nwL ⟨j+1,o++[⟨4,k,x⟩]⟩ ?_
    exact⟨by omega,mM ho hx⟩
   ·refine nw (k+1) ?_ ?_
    ·(repeat' ((conv=>whnf)<;>(first|exact trivial|exact rfl|with_reducible refine And.intro ?_ ?_)))<;>((conv=>whnf)<;>((rw [<- hnx];simp [oD ho (by omega)])))
    exact (by omega:k+1<=p.acts.length)
  ·exact trivial
def qU (p:Proj) (b:Dom):List Lit:=(jG p b).map negate
theorem abb (p:Proj) (b:Dom):(jG p b).map (fun x=>(negate x).av)=(qU p b).map Lit.av:=by rw [qU,List.map_map];rfl
theorem Da (p:Proj) (b:Dom) (hp:p.fine):Con 240 [.d p.av,.d b.av] (.own 102 ((qU p b).map Lit.av)):=by
 refine con Tryz.func240 rfl rfl Tryz.call240 rfl fun hwf=>?_
 have hd:=CZ p b
 (repeat' ((conv=>whnf);first|refine gA ?_|refine gC (Ez p b hp) ?_|intro _))
 refine ay [11,12] [] [8] ?_
 (conv=>whnf)
 refine au.go ((Nat)) (fun k=>(k<=(jG p b).length)) (fun k=>[(13,.data (i64 k)),(5,.own 8 0)]) lE (fun k=>[(8,102,((jG p b).take k).map (fun x=>(negate x).av),0)]) (fun k=>(jG p b).length - k) (0) ?_ ?_
 ·exact Nat.zero_le _
 rintro k hk
 (repeat' ((conv=>whnf);first|refine gAX ?_|(refine gB ?_ ?_<;>intro h)|(refine gI ?_;intro x hx)|refine gC (iK x) ?_|intro _))
 ·refine nw (k+1) ?_ ?_
  ·(repeat' ((conv=>whnf)<;>(first|exact trivial|exact rfl|with_reducible refine And.intro ?_ ?_)))<;>((conv=>whnf)<;>(exact fO _ hx))
  exact (by omega:k+1<=(jG p b).length)
 ·(repeat' ((conv=>whnf)<;>(first|exact trivial|exact VC.nod (by kernel_rfl)|refine VC.mk rfl ?_|refine VC.mk (by dsimp only;rw [List.take_of_length_le (by omega),abb]) ?_)))
theorem wZ (p:Proj) (b:Dom) (hp:p.fine):Con 216 [.d p.av,.d b.av] (.own 102 ((qU p b).map Lit.av)):=by
 refine con Tryz.func216 rfl rfl Tryz.call216 rfl fun hwf=>?_
 have hd:=CZ p b
 (repeat' ((conv=>whnf);first|refine gA ?_|refine gC (EA p b hp) ?_|intro _))
 refine ay [11,12] [] [8] ?_
 (conv=>whnf)
 refine au.go ((Nat)) (fun k=>(k<=(jG p b).length)) (fun k=>[(13,.data (i64 k)),(5,.own 8 0)]) lE (fun k=>[(8,102,((jG p b).take k).map (fun x=>(negate x).av),0)]) (fun k=>(jG p b).length - k) (0) ?_ ?_
 ·exact Nat.zero_le _
 rintro k hk
 (repeat' ((conv=>whnf);first|refine gAX ?_|(refine gB ?_ ?_<;>intro h)|(refine gI ?_;intro x hx)|refine gC (qL x) ?_|intro _))
 ·refine nw (k+1) ?_ ?_
  ·(repeat' ((conv=>whnf)<;>(first|exact trivial|exact rfl|with_reducible refine And.intro ?_ ?_)))<;>((conv=>whnf)<;>(exact fO _ hx))
  exact (by omega:k+1<=(jG p b).length)
 ·(repeat' ((conv=>whnf)<;>(first|exact trivial|exact VC.nod (by kernel_rfl)|refine VC.mk rfl ?_|refine VC.mk (by dsimp only;rw [List.take_of_length_le (by omega),abb]) ?_)))
def explain (p:Proj) (b:Dom) (r:Rul):List Lit:=if refutes p b r=true then mE p r (fun _=>false) (bJ (qU p b)) else []
theorem zH (x:Lit):Con 241 [.d x.av] (.d (.bool false)):=by
 refine con Tryz.func241 rfl rfl Tryz.call241 rfl fun hwf=>?_
 try (conv=>whnf)
 all_goals exact⟨rfl,rfl,trivial⟩
theorem Jj {p:Proj} {b:Dom} {r:Rul} (h:refutes p b r=true):aW p b=true:=by
 simp only [refutes,Bool.and_eq_true] at h
 exact h.1
theorem ZN {l:List Int} {n x:Int} (h:x∈setOf l):x∈l:=by
 obtain⟨_,h4⟩:=rO (l:=l) (o:=[]) List.Pairwise.nil
 simpa using (h4 x).1 h
theorem Jk {p:Proj} {b:Dom} (hf:aW p b=true):∀{k:Nat},k<=p.acts.length->∀x∈cB p b k,(x.kind=1\/x.kind=2\/x.kind=4)/\ -2<=x.val/\x.val<=200
 |0,_,x,h=>by simp [cB] at h
 |k+1,hk,x,h=>by
  rw [cB,List.mem_append] at h
  rcases h with h|h
  ·exact Jk hf (by omega) x h
  ·obtain⟨a,lo,hi,m,g⟩:=dN hf (show k < p.acts.length by omega)
   rw [Jh g,List.mem_append,List.mem_append] at h
   have h1:=g.lob
   have h2:=g.hib
   rcases h with (h|h)|h
   ·unfold yc at h
    split at h
    ·obtain rfl:=List.mem_singleton.1 h
     exact⟨.inl rfl,h1.1,by show lo<=200;omega⟩
    ·simp at h
   ·unfold yg at h
    split at h
    ·obtain rfl:=List.mem_singleton.1 h
     exact⟨.inr (.inl rfl),h2.1,by show hi<=200;omega⟩
    ·simp at h
   ·simp only [iE,List.mem_map] at h
    obtain⟨n,hn,rfl⟩:=h
    have hn:=ZN (n:=0) hn
    obtain⟨j,rfl,hj⟩:=Ak (List.mem_filter.1 hn).1
    have hl:=(List.mem_filter.1 hn).1
    unfold aT at hl
    split at hl
    ·rename_i hw
     have:=within_iff.1 hw
     exact⟨.inr (.inr rfl),by show (-2:Int)<=(j:Int);omega,by show (j:Int)<=200;omega⟩
    ·simp at hl
theorem abY {p:Proj} {b:Dom} (hf:aW p b=true) {x:Lit} (hx:x∈bJ (qU p b)):aY x bL=false:=by
 rw [(sZ _).2,qU,List.mem_map] at hx
 obtain⟨y,hy,rfl⟩:=hx
 rw [jG,if_pos hf] at hy
 obtain⟨h1,h2,h3⟩:=Jk hf (Nat.le_refl _) y hy
 have hw:within y.val (-100000) 100000=true:=within_iff.2 ⟨by omega,by omega⟩
 cases hs:aY (negate y) bL with
 |false=>rfl
 |true=>
  have e:=congrArg Lit.kind (gH.1 hs)
  simp only [negate,hw,if_true,bL] at e
  rcases h1 with h1|h1|h1<;>simp [h1] at e
theorem ZO {p:Proj} {b:Dom} {r:Rul} (h:refutes p b r=true):explain p b r=mE p r (fun x=>aY x (GA (bJ (qU p b)) (-1))) (bJ (qU p b)):=by
 rw [explain,if_pos h,Pf (by cases hw:within (-1) 0 (((bJ (qU p b)).length:Int) - 1) with|false=>rfl|true=>have:=within_iff.1 hw;omega)]
 exact Pj fun o x hx=>by simp only [kL,abY (Jj h) hx]
theorem mV (p:Proj) (b:Dom) (r:Rul) (hp:p.fine):Con 128 [.d p.av,.d b.av,.d r.av] (.d (lits (explain p b r))):=by
 refine con Tryz.func128 rfl rfl Tryz.call128 rfl fun hwf=>?_
 cases hf:refutes p b r with
 |false=>
  have e:explain p b r= []:=by rw [explain,if_neg (by rw [hf];exact Bool.false_ne_true)]
  rw [e]
  (repeat' ((conv=>whnf);first|with_reducible refine Br.no hf ?_|refine gA ?_|refine gC (mR p b r hp) ?_|intro _))
  exact⟨rfl,rfl,trivial⟩
 |true=>
  rw [ZO hf]
  (repeat' ((conv=>whnf);first|with_reducible refine Br.yes hf ?_|refine gA ?_|refine gC (mR p b r hp) ?_|refine gC (wZ p b hp) ?_|refine gC (wY (qU p b)) ?_|refine gC (FE p r (bJ (qU p b)) (-1) hp (bA (Jj hf)).1) ?_|intro _))
  exact⟨rfl,rfl,trivial⟩
end Go.Proofs.YthegbfgeochckaaGreat.Abs
