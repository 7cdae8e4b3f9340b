/- Contracts: a domain's literals; refutations are explained. -/
import Derived.Test.YtmenphiahgkjkaaGreatDoorNd
set_option linter.all false
set_option maxRecDepth 20000
set_option maxHeartbeats 0
namespace Go.Proofs.YtmenphiahgkjkaaGreatDoor.Abs
open Go.Proofs
def fJ (a b:List Int):List Int:=setOf (a.filter fun n=> !b.contains n)
theorem Bb (k:Int) (b:List Int):Con 210 [.d (i64 k),.ref (ints b)] (.d (.bool (!b.contains k))):=by
 refine con Tryz.func210 rfl rfl Tryz.call210 rfl fun hwf=>?_
 (repeat' ((conv=>whnf);first|refine gA ?_|(refine gB ?_ ?_<;>intro h)|refine gC (uI b k) ?_|intro _))<;>try (conv=>whnf)
 all_goals exact⟨rfl,rfl,trivial⟩
theorem Dk (a b:List Int):Con 188 [.d (ints a),.d (ints b)] (.d (ints (fJ a b))):=by
 refine con Tryz.func188 rfl rfl Tryz.call188 rfl fun hwf=>?_
 (repeat' ((conv=>whnf);first|refine gA ?_|(refine gB ?_ ?_<;>intro h)|refine gC (Gx a 210 [ints b] _ fun x=>Bb x b) ?_|refine gC (pQ (a.filter fun n=> !b.contains n)) ?_|intro _))<;>try (conv=>whnf)
 all_goals exact⟨rfl,rfl,trivial⟩
def uO (k:Nat) (x:Int):List Lit:=if x > 0 then [⟨1,k,x⟩] else []
def uP (d:Int) (k:Nat) (y:Int):List Lit:=if y < d - 1 then [⟨2,k,y⟩] else []
def iH (k:Nat) (l:List Int):List Lit:=l.map fun n=>⟨4,k,n⟩
def nU (p:Proj) (b:Dom) (k:Nat):List Lit:=
 match p.acts[k]?,b.lo[k]?,b.hi[k]?,b.modes[k]? with
 |some a,some x,some y,some m=>uO k x++uP p.dead k y++iH k (fJ (aO a.modes.length) m)
 |_,_,_,_=>[]
def bV (p:Proj) (b:Dom):Nat→List Lit
 |0=>[]
 |k+1=>bV p b k++nU p b k
def jO (p:Proj) (b:Dom):List Lit:=if ak p b=true then bV p b p.acts.length else []
theorem oM {p:Proj} {b:Dom} {k:Nat} {a:aC} {x y:Int} {m:List Int} (g:fV p b k a x y m):nU p b k=uO k x++uP p.dead k y++iH k (fJ (aO a.modes.length) m):=by
 simp only [nU,g.act,g.lo,g.hi,g.modes]
theorem EW (n:Int):(aO n).length≤200:=by
 unfold aO
 split
 ·rename_i h
  have:=within_iff.1 h
  simp;omega
 ·simp
theorem qK (n:Int) (m:List Int):(fJ (aO n) m).length≤200:=by
 have h1:=jV ((aO n).filter fun n=> !m.contains n)
 have h2:=List.length_filter_le (fun n=> !m.contains n) (aO n)
 have h3:=EW n
 simp only [fJ];omega
theorem Nc (p:Proj) (b:Dom) (k:Nat):(nU p b k).length≤202:=by
 unfold nU
 split
 ·rename_i a x y m _ _ _ _
  have:=qK a.modes.length m
  have h1:(uO k x).length≤1:=by unfold uO;split<;>simp
  have h2:(uP p.dead k y).length≤1:=by unfold uP;split<;>simp
  simp only [List.length_append,iH,List.length_map];omega
 ·simp
theorem mF (p:Proj) (b:Dom) (k:Nat):(bV p b k).length≤202*k:=by
 induction k with
 |zero=>simp [bV]
 |succ k ih=>
  have:=Nc p b k
  simp only [bV,List.length_append];omega
theorem Il (p:Proj) (b:Dom):(jO p b).length≤1212:=by
 unfold jO
 split
 ·rename_i h
  have h1:=(fG (bZ h).1).KS
  have h2:=mF p b p.acts.length
  omega
 ·simp
theorem uQ {k j:Nat} {l:List Int} {n:Int} {o q:List Lit} (ho:o=q++iH k (l.take j)) (hn:l[j]? =some n):o++[⟨4,(k:Int),n⟩]=q++iH k (l.take (j+1)):=by
 obtain⟨hj,rfl⟩:=List.getElem?_eq_some_iff.1 hn
 rw [ho,List.take_succ_eq_append_getElem hj,iH,iH,List.map_append,List.append_assoc];rfl
theorem xQ {k j:Nat} {l:List Int} {o q:List Lit} (ho:o=q++iH k (l.take j)) (hn:l.length≤j):o=q++iH k l:=by
 rw [ho,List.take_of_length_le hn]
theorem xR {k j:Nat} {l:List Int} {o q:List Lit} (ho:o=q++iH k (l.take j)):o.length≤q.length+l.length:=by
 rw [ho];simp only [List.length_append,iH,List.length_map,List.length_take];omega
theorem rU {p:Proj} {b:Dom} {k:Nat} {a:aC} {x y:Int} {m:List Int} (g:fV p b k a x y m) {u v:List Lit} (hu:uO k x=u) (hv:uP p.dead k y=v):bV p b k++u++v++iH k (fJ (aO a.modes.length) m)=bV p b (k+1):=by
 rw [bV,oM g,hu,hv];simp [List.append_assoc]
theorem Bc (p:Proj) (b:Dom) (hp:p.fine):Con 155 [.d p.av,.d b.av] (.d (lits (jO p b))):=by
 refine con Tryz.func155 rfl rfl Tryz.call155 rfl fun hwf=>?_
 simp only [ARs.wf,AR.wf,AV.wf,AV.wfs,lm,lim] at hwf
 cases hf:ak p b with
 |false=>
  (repeat' ((conv=>whnf);first|with_reducible refine Br.no hf ?_|with_reducible refine Br.yes hf ?_|refine gA ?_|(refine gB ?_ ?_<;>intro h)|(refine gI ?_;intro x hx)|(refine gJ ?_;intro j x hj hx)|refine gP ?_|refine gV ?_|refine gC (aT p b hp) ?_|intro _))<;>try (conv=>whnf)
  refine⟨?_,rfl,trivial⟩
  rw [jO,if_neg (by rw [hf];exact Bool.false_ne_true)];rfl
 |true=>
  rw [jO,if_pos hf]
  obtain⟨hpo,l1,l2,l3,_⟩:=bZ hf
  have hna:=(fG hpo).KS
  have hde:=(fG hpo).dead
  (repeat' ((conv=>whnf);first|with_reducible refine Br.no hf ?_|with_reducible refine Br.yes hf ?_|refine gA ?_|(refine gB ?_ ?_<;>intro h)|(refine gI ?_;intro x hx)|(refine gJ ?_;intro j x hj hx)|refine gP ?_|refine gV ?_|refine gC (aT p b hp) ?_|intro _))<;>try (conv=>whnf)
  refine aB [2,3,16,17] [2,3] [14] ?_
  (conv=>whnf)
  refine aA.go ((Nat)) (fun k=>(k≤p.acts.length)) (fun k=>[(18,.data (i64 k)),(5,.own 14 0)]) (fun _=>[]) (fun k=>[(14,79,(bV p b k).map Lit.av,0)]) (fun k=>p.acts.length - k) (0) ?_ ?_
  ·exact Nat.zero_le _
  rintro k hk
  by_cases hlt:k < p.acts.length
  rotate_left
  ·(repeat' ((conv=>whnf);first|(exfalso;omega)|refine gA ?_|(refine gB ?_ ?_<;>intro h)|(refine gI ?_;intro x hx)|(refine gJ ?_;intro j x hj hx)|refine gP ?_|refine gV ?_|intro _))<;>try (conv=>whnf)
   refine⟨?_,rfl,trivial⟩
   rw [show p.acts.length=k by omega]
  obtain⟨a,lo,up,m,g⟩:=dL hf hlt
  have hxb:=g.lob
  have hyb:=g.hib
  have hq0:=mF p b k
  (repeat' ((conv=>whnf);first|with_reducible refine Idx.got g.act rfl ?_|with_reducible refine Idx.got g.lo rfl ?_|with_reducible refine Idx.got g.hi rfl ?_|with_reducible refine Idx.got g.modes rfl ?_|refine gA ?_|(refine gB ?_ ?_<;>intro h)|(refine gI ?_;intro x hx)|(refine gJ ?_;intro j x hj hx)|refine gP ?_|refine gV ?_|refine gC (pO a) ?_|refine gC (Dk (aO a.modes.length) m) ?_|intro _))<;>try (conv=>whnf)
  ·have hu:uO k lo= [⟨1,k,lo⟩]:=if_pos (by omega)
   have hv:uP p.dead k up= [⟨2,k,up⟩]:=if_pos (by omega)
   have hd:=qK a.modes.length m
   have hq:=mF p b k
   have hnx:=rU g hu hv
   refine aB [2,3,6,16,17,18,65,66] [2,3] [14] ?_
   (conv=>whnf)
   refine aA.mk ((Nat)×(List Lit)) (fun⟨j,o⟩=>(j≤(fJ (aO a.modes.length) m).length)∧(o=bV p b k++[⟨1,k,lo⟩]++[⟨2,k,up⟩]++iH k ((fJ (aO a.modes.length) m).take j))) (fun⟨j,o⟩=>[(67,.data (i64 j)),(5,.own 14 0)]) (fun _=>[]) (fun⟨j,o⟩=>[(14,79,o.map Lit.av,0)]) (fun⟨j,o⟩=>(fJ (aO a.modes.length) m).length - j) ⟨0,bV p b k++[⟨1,k,lo⟩]++[⟨2,k,up⟩]⟩ ?_ ?_ ?_
   rotate_left
   ·(repeat' ((conv=>whnf)<;>(first|exact trivial|exact rfl|with_reducible refine And.intro ?_ ?_)))<;>((conv=>whnf)<;>(simp [Lit.av]))
   rotate_left
   ·exact⟨Nat.zero_le _,by simp [iH]⟩
   rintro⟨j,o⟩ ⟨hj,ho⟩
   have hol:=xR ho
   (try simp only [List.length_append,List.length_cons,List.length_nil] at hol)
   (repeat' ((conv=>whnf);first|refine gA ?_|(refine gB ?_ ?_<;>intro h)|(refine gI ?_;intro x hx)|(refine gJ ?_;intro j x hj hx)|refine gP ?_|refine gV ?_|intro _))<;>try (conv=>whnf)
   ·refine nw ⟨j+1,o++[⟨4,k,x⟩]⟩ ?_ ?_
    ·(repeat' ((conv=>whnf)<;>(first|exact trivial|exact rfl|with_reducible refine And.intro ?_ ?_)))<;>((conv=>whnf)<;>(simp [Lit.av]))
    exact⟨by omega,uQ ho hx⟩
   ·refine nw (k+1) ?_ ?_
    ·(repeat' ((conv=>whnf)<;>(first|exact trivial|exact rfl|with_reducible refine And.intro ?_ ?_)))<;>((conv=>whnf)<;>((rw [← hnx];simp [xQ ho (by omega)])))
    exact (by omega:k+1≤p.acts.length)
  ·have hu:uO k lo= [⟨1,k,lo⟩]:=if_pos (by omega)
   have hv:uP p.dead k up= []:=if_neg (by omega)
   have hd:=qK a.modes.length m
   have hq:=mF p b k
   have hnx:=rU g hu hv
   refine aB [2,3,6,16,17,18,65,66] [2,3] [14] ?_
   (conv=>whnf)
   refine aA.mk ((Nat)×(List Lit)) (fun⟨j,o⟩=>(j≤(fJ (aO a.modes.length) m).length)∧(o=bV p b k++[⟨1,k,lo⟩]++iH k ((fJ (aO a.modes.length) m).take j))) (fun⟨j,o⟩=>[(67,.data (i64 j)),(5,.own 14 0)]) (fun _=>[]) (fun⟨j,o⟩=>[(14,79,o.map Lit.av,0)]) (fun⟨j,o⟩=>(fJ (aO a.modes.length) m).length - j) ⟨0,bV p b k++[⟨1,k,lo⟩]⟩ ?_ ?_ ?_
   rotate_left
   ·(repeat' ((conv=>whnf)<;>(first|exact trivial|exact rfl|with_reducible refine And.intro ?_ ?_)))<;>((conv=>whnf)<;>(simp [Lit.av]))
   rotate_left
   ·exact⟨Nat.zero_le _,by simp [iH]⟩
   rintro⟨j,o⟩ ⟨hj,ho⟩
   have hol:=xR ho
   (try simp only [List.length_append,List.length_cons,List.length_nil] at hol)
   (repeat' ((conv=>whnf);first|refine gA ?_|(refine gB ?_ ?_<;>intro h)|(refine gI ?_;intro x hx)|(refine gJ ?_;intro j x hj hx)|refine gP ?_|refine gV ?_|intro _))<;>try (conv=>whnf)
   ·refine nw ⟨j+1,o++[⟨4,k,x⟩]⟩ ?_ ?_
    ·(repeat' ((conv=>whnf)<;>(first|exact trivial|exact rfl|with_reducible refine And.intro ?_ ?_)))<;>((conv=>whnf)<;>(simp [Lit.av]))
    exact⟨by omega,uQ ho hx⟩
   ·refine nw (k+1) ?_ ?_
    ·(repeat' ((conv=>whnf)<;>(first|exact trivial|exact rfl|with_reducible refine And.intro ?_ ?_)))<;>((conv=>whnf)<;>((rw [← hnx];simp [xQ ho (by omega)])))
    exact (by omega:k+1≤p.acts.length)
  ·have hu:uO k lo= []:=if_neg (by omega)
   have hv:uP p.dead k up= [⟨2,k,up⟩]:=if_pos (by omega)
   have hd:=qK a.modes.length m
   have hq:=mF p b k
   have hnx:=rU g hu hv
   refine aB [2,3,6,16,17,18,65,66] [2,3] [14] ?_
   (conv=>whnf)
   refine aA.mk ((Nat)×(List Lit)) (fun⟨j,o⟩=>(j≤(fJ (aO a.modes.length) m).length)∧(o=bV p b k++[⟨2,k,up⟩]++iH k ((fJ (aO a.modes.length) m).take j))) (fun⟨j,o⟩=>[(67,.data (i64 j)),(5,.own 14 0)]) (fun _=>[]) (fun⟨j,o⟩=>[(14,79,o.map Lit.av,0)]) (fun⟨j,o⟩=>(fJ (aO a.modes.length) m).length - j) ⟨0,bV p b k++[⟨2,k,up⟩]⟩ ?_ ?_ ?_
   rotate_left
   ·(repeat' ((conv=>whnf)<;>(first|exact trivial|exact rfl|with_reducible refine And.intro ?_ ?_)))<;>((conv=>whnf)<;>(simp [Lit.av]))
   rotate_left
   ·exact⟨Nat.zero_le _,by simp [iH]⟩
   rintro⟨j,o⟩ ⟨hj,ho⟩
   have hol:=xR ho
   (try simp only [List.length_append,List.length_cons,List.length_nil] at hol)
   (repeat' ((conv=>whnf);first|refine gA ?_|(refine gB ?_ ?_<;>intro h)|(refine gI ?_;intro x hx)|(refine gJ ?_;intro j x hj hx)|refine gP ?_|refine gV ?_|intro _))<;>try (conv=>whnf)
   ·refine nw ⟨j+1,o++[⟨4,k,x⟩]⟩ ?_ ?_
    ·(repeat' ((conv=>whnf)<;>(first|exact trivial|exact rfl|with_reducible refine And.intro ?_ ?_)))<;>((conv=>whnf)<;>(simp [Lit.av]))
    exact⟨by omega,uQ ho hx⟩
   ·refine nw (k+1) ?_ ?_
    ·(repeat' ((conv=>whnf)<;>(first|exact trivial|exact rfl|with_reducible refine And.intro ?_ ?_)))<;>((conv=>whnf)<;>((rw [← hnx];simp [xQ ho (by omega)])))
    exact (by omega:k+1≤p.acts.length)
  ·have hu:uO k lo= []:=if_neg (by omega)
   have hv:uP p.dead k up= []:=if_neg (by omega)
   have hd:=qK a.modes.length m
   have hq:=mF p b k
   have hnx:=rU g hu hv
   refine aB [2,3,6,16,17,18,65,66] [2,3] [14] ?_
   (conv=>whnf)
   refine aA.mk ((Nat)×(List Lit)) (fun⟨j,o⟩=>(j≤(fJ (aO a.modes.length) m).length)∧(o=bV p b k++iH k ((fJ (aO a.modes.length) m).take j))) (fun⟨j,o⟩=>[(67,.data (i64 j)),(5,.own 14 0)]) (fun _=>[]) (fun⟨j,o⟩=>[(14,79,o.map Lit.av,0)]) (fun⟨j,o⟩=>(fJ (aO a.modes.length) m).length - j) ⟨0,bV p b k⟩ ?_ ?_ ?_
   rotate_left
   ·(repeat' ((conv=>whnf)<;>(first|exact trivial|exact rfl|with_reducible refine And.intro ?_ ?_)))<;>((conv=>whnf)<;>(simp [Lit.av]))
   rotate_left
   ·exact⟨Nat.zero_le _,by simp [iH]⟩
   rintro⟨j,o⟩ ⟨hj,ho⟩
   have hol:=xR ho
   (try simp only [List.length_append,List.length_cons,List.length_nil] at hol)
   (repeat' ((conv=>whnf);first|refine gA ?_|(refine gB ?_ ?_<;>intro h)|(refine gI ?_;intro x hx)|(refine gJ ?_;intro j x hj hx)|refine gP ?_|refine gV ?_|intro _))<;>try (conv=>whnf)
   ·refine nw ⟨j+1,o++[⟨4,k,x⟩]⟩ ?_ ?_
    ·(repeat' ((conv=>whnf)<;>(first|exact trivial|exact rfl|with_reducible refine And.intro ?_ ?_)))<;>((conv=>whnf)<;>(simp [Lit.av]))
    exact⟨by omega,uQ ho hx⟩
   ·refine nw (k+1) ?_ ?_
    ·(repeat' ((conv=>whnf)<;>(first|exact trivial|exact rfl|with_reducible refine And.intro ?_ ?_)))<;>((conv=>whnf)<;>((rw [← hnx];simp [xQ ho (by omega)])))
    exact (by omega:k+1≤p.acts.length)
  ·exact trivial
def rV (p:Proj) (b:Dom):List Lit:=(jO p b).map negate
theorem aaq (p:Proj) (b:Dom):(jO p b).map (fun x=>(negate x).av)=(rV p b).map Lit.av:=by rw [rV,List.map_map];rfl
theorem zR (p:Proj) (b:Dom) (hp:p.fine):Con 126 [.d p.av,.d b.av] (.own 79 ((rV p b).map Lit.av)):=by
 refine con Tryz.func126 rfl rfl Tryz.call126 rfl fun hwf=>?_
 have hd:=Il p b
 (repeat' ((conv=>whnf);first|refine gA ?_|(refine gB ?_ ?_<;>intro h)|(refine gI ?_;intro x hx)|(refine gJ ?_;intro j x hj hx)|refine gP ?_|refine gV ?_|refine gC (Bc p b hp) ?_|intro _))<;>try (conv=>whnf)
 refine aB [11,12] [] [8] ?_
 (conv=>whnf)
 refine aA.go ((Nat)) (fun k=>(k≤(jO p b).length)) (fun k=>[(13,.data (i64 k)),(5,.own 8 0)]) (fun _=>[]) (fun k=>[(8,79,((jO p b).take k).map (fun x=>(negate x).av),0)]) (fun k=>(jO p b).length - k) (0) ?_ ?_
 ·exact Nat.zero_le _
 rintro k hk
 (repeat' ((conv=>whnf);first|refine gA ?_|(refine gB ?_ ?_<;>intro h)|(refine gI ?_;intro x hx)|(refine gJ ?_;intro j x hj hx)|refine gP ?_|refine gV ?_|refine gC (gF x) ?_|intro _))<;>try (conv=>whnf)
 ·refine nw (k+1) ?_ ?_
  ·(repeat' ((conv=>whnf)<;>(first|exact trivial|exact rfl|with_reducible refine And.intro ?_ ?_)))<;>((conv=>whnf)<;>(exact kN _ hx))
  exact (by omega:k+1≤(jO p b).length)
 ·(repeat' ((conv=>whnf)<;>(first|exact trivial|exact VC.nod (by kernel_rfl)|refine VC.mk rfl ?_|refine VC.mk (by dsimp only;rw [List.take_of_length_le (by omega),aaq]) ?_)))
def explain (p:Proj) (b:Dom) (r:Rul):List Lit:=if refutes p b r=true then pR p r (fun _=>false) (dh (rV p b)) else []
theorem wE (x:Lit):Con 127 [.d x.av] (.d (.bool false)):=by
 refine con Tryz.func127 rfl rfl Tryz.call127 rfl fun hwf=>?_
 (repeat' ((conv=>whnf);first|refine gA ?_|(refine gB ?_ ?_<;>intro h)|intro _))<;>try (conv=>whnf)
 all_goals exact⟨rfl,rfl,trivial⟩
theorem QI {p:Proj} {b:Dom} {r:Rul} (h:refutes p b r=true):ak p b=true:=by
 simp only [refutes,Bool.and_eq_true] at h
 exact h.1
end Go.Proofs.YtmenphiahgkjkaaGreatDoor.Abs
