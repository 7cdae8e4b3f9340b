/- Contracts: a domain's literals; refutations are explained. -/
import Derived.Test.YtefgamefajmdkaaGreatNd
set_option linter.all false
set_option maxRecDepth 20000
set_option maxHeartbeats 0
namespace Go.Proofs.YtefgamefajmdkaaGreat.Abs
open Go.Proofs
def fq (a b:List Int):List Int:=setOf (a.filter fun n=> !b.contains n)
theorem CK (a b:List Int):Con 262 [.d (ints a),.d (ints b)] (.d (ints (fq a b))):=by
 refine con Tryz.func262 rfl rfl Tryz.call262 rfl fun hwf=>?_
 simp only [ARs.wf,AR.wf,AV.wf,AV.wfs,lm,lim] at hwf
 (repeat' ((conv=>whnf);first|refine gA ?_|(refine gB ?_ ?_<;>intro h)|(refine gI ?_;intro x hx)|(refine gJ ?_;intro j x hj hx)|refine gP ?_|refine gV ?_|intro _))<;>try (conv=>whnf)
 refine aB [1,9,10] [] [8] ?_
 (conv=>whnf)
 refine aA.go ((Nat)×(List Int)) (fun⟨k,o⟩=>(k≤a.length)∧(o.length≤k)∧(o++(a.drop k).filter (fun n=> !b.contains n)=a.filter (fun n=> !b.contains n))) (fun⟨k,o⟩=>[(11,.data (i64 k)),(5,.own 8 0)]) (fun _=>[]) (fun⟨k,o⟩=>[(8,3,o.map i64,0)]) (fun⟨k,o⟩=>a.length - k) ⟨0,[]⟩ ?_ ?_
 ·exact⟨by omega,by simp,rfl⟩
 rintro⟨k,o⟩ ⟨hk,ho,hi⟩
 (repeat' ((conv=>whnf);first|refine gA ?_|(refine gB ?_ ?_<;>intro h)|(refine gI ?_;intro x hx)|(refine gJ ?_;intro j x hj hx)|refine gP ?_|refine gV ?_|refine gC (eT _ _) ?_|refine gC (oz o) ?_|intro _))<;>try (conv=>whnf)
 ·refine nx ⟨k+1,o⟩ ?_
  exact⟨by omega,by omega,(iG hi hx).2 (by simp only [h];rfl)⟩
 ·refine nw ⟨k+1,o++[x]⟩ ?_ ?_
  ·(repeat' ((conv=>whnf)<;>(first|exact trivial|exact rfl|with_reducible refine And.intro ?_ ?_)))<;>((conv=>whnf)<;>(simp))
  exact⟨by omega,by simp;omega,(iG hi hx).1 (by simp only [h];rfl)⟩
 ·refine⟨?_,rfl,trivial⟩
  rw [fq, ← hi,aG (by assumption)];simp
def vg (k:Nat) (x:Int):List Lit:=if x > 0 then [⟨1,k,x⟩] else []
def vk (d:Int) (k:Nat) (y:Int):List Lit:=if y < d - 1 then [⟨2,k,y⟩] else []
def iQ (k:Nat) (l:List Int):List Lit:=l.map fun n=>⟨4,k,n⟩
def ni (p:Proj) (b:Dom) (k:Nat):List Lit:=
 match p.acts[k]?,b.lo[k]?,b.hi[k]?,b.modes[k]? with
 |some a,some x,some y,some m=>vg k x++vk p.dead k y++iQ k (fq (aK a.modes.length) m)
 |_,_,_,_=>[]
def dz (p:Proj) (b:Dom):Nat→List Lit
 |0=>[]
 |k+1=>dz p b k++ni p b k
def jW (p:Proj) (b:Dom):List Lit:=if aC p b=true then dz p b p.acts.length else []
theorem qH {p:Proj} {b:Dom} {k:Nat} {a:aH} {x y:Int} {m:List Int} (g:dW p b k a x y m):ni p b k=vg k x++vk p.dead k y++iQ k (fq (aK a.modes.length) m):=by
 simp only [ni,g.act,g.lo,g.hi,g.modes]
theorem EL (n:Int):(aK n).length≤200:=by
 unfold aK
 split
 ·rename_i h
  have:=within_iff.1 h
  simp;omega
 ·simp
theorem pI (n:Int) (m:List Int):(fq (aK n) m).length≤200:=by
 have h1:=jf ((aK n).filter fun n=> !m.contains n)
 have h2:=List.length_filter_le (fun n=> !m.contains n) (aK n)
 have h3:=EL n
 simp only [fq];omega
theorem LU (p:Proj) (b:Dom) (k:Nat):(ni p b k).length≤202:=by
 unfold ni
 split
 ·rename_i a x y m _ _ _ _
  have:=pI a.modes.length m
  have h1:(vg k x).length≤1:=by unfold vg;split<;>simp
  have h2:(vk p.dead k y).length≤1:=by unfold vk;split<;>simp
  simp only [List.length_append,iQ,List.length_map];omega
 ·simp
theorem lQ (p:Proj) (b:Dom) (k:Nat):(dz p b k).length≤202*k:=by
 induction k with
 |zero=>simp [dz]
 |succ k ih=>
  have:=LU p b k
  simp only [dz,List.length_append];omega
theorem Hy (p:Proj) (b:Dom):(jW p b).length≤1212:=by
 unfold jW
 split
 ·rename_i h
  have h1:=(eD (bD h).1).LG
  have h2:=lQ p b p.acts.length
  omega
 ·simp
theorem tJ {k j:Nat} {l:List Int} {n:Int} {o q:List Lit} (ho:o=q++iQ k (l.take j)) (hn:l[j]? =some n):o++[⟨4,(k:Int),n⟩]=q++iQ k (l.take (j+1)):=by
 obtain⟨hj,rfl⟩:=List.getElem?_eq_some_iff.1 hn
 rw [ho,List.take_succ_eq_append_getElem hj,iQ,iQ,List.map_append,List.append_assoc];rfl
theorem wK {k j:Nat} {l:List Int} {o q:List Lit} (ho:o=q++iQ k (l.take j)) (hn:l.length≤j):o=q++iQ k l:=by
 rw [ho,List.take_of_length_le hn]
theorem wL {k j:Nat} {l:List Int} {o q:List Lit} (ho:o=q++iQ k (l.take j)):o.length≤q.length+l.length:=by
 rw [ho];simp only [List.length_append,iQ,List.length_map,List.length_take];omega
theorem qI {p:Proj} {b:Dom} {k:Nat} {a:aH} {x y:Int} {m:List Int} (g:dW p b k a x y m) {u v:List Lit} (hu:vg k x=u) (hv:vk p.dead k y=v):dz p b k++u++v++iQ k (fq (aK a.modes.length) m)=dz p b (k+1):=by
 rw [dz,qH g,hu,hv];simp [List.append_assoc]
theorem Ah (p:Proj) (b:Dom) (hp:p.fine):Con 225 [.d p.av,.d b.av] (.d (lits (jW p b))):=by
 refine con Tryz.func225 rfl rfl Tryz.call225 rfl fun hwf=>?_
 simp only [ARs.wf,AR.wf,AV.wf,AV.wfs,lm,lim] at hwf
 cases hf:aC p b with
 |false=>
  (repeat' ((conv=>whnf);first|with_reducible refine Br.no hf ?_|with_reducible refine Br.yes hf ?_|refine gA ?_|(refine gB ?_ ?_<;>intro h)|(refine gI ?_;intro x hx)|(refine gJ ?_;intro j x hj hx)|refine gP ?_|refine gV ?_|refine gC (dw p b hp) ?_|intro _))<;>try (conv=>whnf)
  refine⟨?_,rfl,trivial⟩
  rw [jW,if_neg (by rw [hf];exact Bool.false_ne_true)];rfl
 |true=>
  rw [jW,if_pos hf]
  obtain⟨hpo,l1,l2,l3,_⟩:=bD hf
  have hna:=(eD hpo).LG
  have hde:=(eD hpo).dead
  (repeat' ((conv=>whnf);first|with_reducible refine Br.no hf ?_|with_reducible refine Br.yes hf ?_|refine gA ?_|(refine gB ?_ ?_<;>intro h)|(refine gI ?_;intro x hx)|(refine gJ ?_;intro j x hj hx)|refine gP ?_|refine gV ?_|refine gC (dw p b hp) ?_|intro _))<;>try (conv=>whnf)
  refine aB [2,3,16,17] [2,3] [10] ?_
  (conv=>whnf)
  refine aA.go ((Nat)) (fun k=>(k≤p.acts.length)) (fun k=>[(18,.data (i64 k)),(5,.own 10 0)]) (fun _=>[]) (fun k=>[(10,82,(dz p b k).map Lit.av,0)]) (fun k=>p.acts.length - k) (0) ?_ ?_
  ·exact Nat.zero_le _
  rintro k hk
  by_cases hlt:k < p.acts.length
  rotate_left
  ·(repeat' ((conv=>whnf);first|(exfalso;omega)|refine gA ?_|(refine gB ?_ ?_<;>intro h)|(refine gI ?_;intro x hx)|(refine gJ ?_;intro j x hj hx)|refine gP ?_|refine gV ?_|intro _))<;>try (conv=>whnf)
   refine⟨?_,rfl,trivial⟩
   rw [show p.acts.length=k by omega]
  obtain⟨a,lo,up,m,g⟩:=dR hf hlt
  have hxb:=g.lob
  have hyb:=g.hib
  have hq0:=lQ p b k
  (repeat' ((conv=>whnf);first|with_reducible refine Idx.got g.act rfl ?_|with_reducible refine Idx.got g.lo rfl ?_|with_reducible refine Idx.got g.hi rfl ?_|with_reducible refine Idx.got g.modes rfl ?_|refine gA ?_|(refine gB ?_ ?_<;>intro h)|(refine gI ?_;intro x hx)|(refine gJ ?_;intro j x hj hx)|refine gP ?_|refine gV ?_|refine gC (ow a) ?_|refine gC (CK (aK a.modes.length) m) ?_|intro _))<;>try (conv=>whnf)
  ·have hu:vg k lo= [⟨1,k,lo⟩]:=if_pos (by omega)
   have hv:vk p.dead k up= [⟨2,k,up⟩]:=if_pos (by omega)
   have hd:=pI a.modes.length m
   have hq:=lQ p b k
   have hnx:=qI g hu hv
   refine aB [2,3,6,16,17,18,65,66] [2,3] [10] ?_
   (conv=>whnf)
   refine aA.mk ((Nat)×(List Lit)) (fun⟨j,o⟩=>(j≤(fq (aK a.modes.length) m).length)∧(o=dz p b k++[⟨1,k,lo⟩]++[⟨2,k,up⟩]++iQ k ((fq (aK a.modes.length) m).take j))) (fun⟨j,o⟩=>[(67,.data (i64 j)),(5,.own 10 0)]) (fun _=>[]) (fun⟨j,o⟩=>[(10,82,o.map Lit.av,0)]) (fun⟨j,o⟩=>(fq (aK a.modes.length) m).length - j) ⟨0,dz p b k++[⟨1,k,lo⟩]++[⟨2,k,up⟩]⟩ ?_ ?_ ?_
   rotate_left
   ·(repeat' ((conv=>whnf)<;>(first|exact trivial|exact rfl|with_reducible refine And.intro ?_ ?_)))<;>((conv=>whnf)<;>(simp [Lit.av]))
   rotate_left
   ·exact⟨Nat.zero_le _,by simp [iQ]⟩
   rintro⟨j,o⟩ ⟨hj,ho⟩
   have hol:=wL ho
   (try simp only [List.length_append,List.length_cons,List.length_nil] at hol)
   (repeat' ((conv=>whnf);first|refine gA ?_|(refine gB ?_ ?_<;>intro h)|(refine gI ?_;intro x hx)|(refine gJ ?_;intro j x hj hx)|refine gP ?_|refine gV ?_|intro _))<;>try (conv=>whnf)
   ·refine nw ⟨j+1,o++[⟨4,k,x⟩]⟩ ?_ ?_
    ·(repeat' ((conv=>whnf)<;>(first|exact trivial|exact rfl|with_reducible refine And.intro ?_ ?_)))<;>((conv=>whnf)<;>(simp [Lit.av]))
    exact⟨by omega,tJ ho hx⟩
   ·refine nw (k+1) ?_ ?_
    ·(repeat' ((conv=>whnf)<;>(first|exact trivial|exact rfl|with_reducible refine And.intro ?_ ?_)))<;>((conv=>whnf)<;>((rw [← hnx];simp [wK ho (by omega)])))
    exact (by omega:k+1≤p.acts.length)
  ·have hu:vg k lo= [⟨1,k,lo⟩]:=if_pos (by omega)
   have hv:vk p.dead k up= []:=if_neg (by omega)
   have hd:=pI a.modes.length m
   have hq:=lQ p b k
   have hnx:=qI g hu hv
   refine aB [2,3,6,16,17,18,65,66] [2,3] [10] ?_
   (conv=>whnf)
   refine aA.mk ((Nat)×(List Lit)) (fun⟨j,o⟩=>(j≤(fq (aK a.modes.length) m).length)∧(o=dz p b k++[⟨1,k,lo⟩]++iQ k ((fq (aK a.modes.length) m).take j))) (fun⟨j,o⟩=>[(67,.data (i64 j)),(5,.own 10 0)]) (fun _=>[]) (fun⟨j,o⟩=>[(10,82,o.map Lit.av,0)]) (fun⟨j,o⟩=>(fq (aK a.modes.length) m).length - j) ⟨0,dz p b k++[⟨1,k,lo⟩]⟩ ?_ ?_ ?_
   rotate_left
   ·(repeat' ((conv=>whnf)<;>(first|exact trivial|exact rfl|with_reducible refine And.intro ?_ ?_)))<;>((conv=>whnf)<;>(simp [Lit.av]))
   rotate_left
   ·exact⟨Nat.zero_le _,by simp [iQ]⟩
   rintro⟨j,o⟩ ⟨hj,ho⟩
   have hol:=wL ho
   (try simp only [List.length_append,List.length_cons,List.length_nil] at hol)
   (repeat' ((conv=>whnf);first|refine gA ?_|(refine gB ?_ ?_<;>intro h)|(refine gI ?_;intro x hx)|(refine gJ ?_;intro j x hj hx)|refine gP ?_|refine gV ?_|intro _))<;>try (conv=>whnf)
   ·refine nw ⟨j+1,o++[⟨4,k,x⟩]⟩ ?_ ?_
    ·(repeat' ((conv=>whnf)<;>(first|exact trivial|exact rfl|with_reducible refine And.intro ?_ ?_)))<;>((conv=>whnf)<;>(simp [Lit.av]))
    exact⟨by omega,tJ ho hx⟩
   ·refine nw (k+1) ?_ ?_
    ·(repeat' ((conv=>whnf)<;>(first|exact trivial|exact rfl|with_reducible refine And.intro ?_ ?_)))<;>((conv=>whnf)<;>((rw [← hnx];simp [wK ho (by omega)])))
    exact (by omega:k+1≤p.acts.length)
  ·have hu:vg k lo= []:=if_neg (by omega)
   have hv:vk p.dead k up= [⟨2,k,up⟩]:=if_pos (by omega)
   have hd:=pI a.modes.length m
   have hq:=lQ p b k
   have hnx:=qI g hu hv
   refine aB [2,3,6,16,17,18,65,66] [2,3] [10] ?_
   (conv=>whnf)
   refine aA.mk ((Nat)×(List Lit)) (fun⟨j,o⟩=>(j≤(fq (aK a.modes.length) m).length)∧(o=dz p b k++[⟨2,k,up⟩]++iQ k ((fq (aK a.modes.length) m).take j))) (fun⟨j,o⟩=>[(67,.data (i64 j)),(5,.own 10 0)]) (fun _=>[]) (fun⟨j,o⟩=>[(10,82,o.map Lit.av,0)]) (fun⟨j,o⟩=>(fq (aK a.modes.length) m).length - j) ⟨0,dz p b k++[⟨2,k,up⟩]⟩ ?_ ?_ ?_
   rotate_left
   ·(repeat' ((conv=>whnf)<;>(first|exact trivial|exact rfl|with_reducible refine And.intro ?_ ?_)))<;>((conv=>whnf)<;>(simp [Lit.av]))
   rotate_left
   ·exact⟨Nat.zero_le _,by simp [iQ]⟩
   rintro⟨j,o⟩ ⟨hj,ho⟩
   have hol:=wL ho
   (try simp only [List.length_append,List.length_cons,List.length_nil] at hol)
   (repeat' ((conv=>whnf);first|refine gA ?_|(refine gB ?_ ?_<;>intro h)|(refine gI ?_;intro x hx)|(refine gJ ?_;intro j x hj hx)|refine gP ?_|refine gV ?_|intro _))<;>try (conv=>whnf)
   ·refine nw ⟨j+1,o++[⟨4,k,x⟩]⟩ ?_ ?_
    ·(repeat' ((conv=>whnf)<;>(first|exact trivial|exact rfl|with_reducible refine And.intro ?_ ?_)))<;>((conv=>whnf)<;>(simp [Lit.av]))
    exact⟨by omega,tJ ho hx⟩
   ·refine nw (k+1) ?_ ?_
    ·(repeat' ((conv=>whnf)<;>(first|exact trivial|exact rfl|with_reducible refine And.intro ?_ ?_)))<;>((conv=>whnf)<;>((rw [← hnx];simp [wK ho (by omega)])))
    exact (by omega:k+1≤p.acts.length)
  ·have hu:vg k lo= []:=if_neg (by omega)
   have hv:vk p.dead k up= []:=if_neg (by omega)
   have hd:=pI a.modes.length m
   have hq:=lQ p b k
   have hnx:=qI g hu hv
   refine aB [2,3,6,16,17,18,65,66] [2,3] [10] ?_
   (conv=>whnf)
   refine aA.mk ((Nat)×(List Lit)) (fun⟨j,o⟩=>(j≤(fq (aK a.modes.length) m).length)∧(o=dz p b k++iQ k ((fq (aK a.modes.length) m).take j))) (fun⟨j,o⟩=>[(67,.data (i64 j)),(5,.own 10 0)]) (fun _=>[]) (fun⟨j,o⟩=>[(10,82,o.map Lit.av,0)]) (fun⟨j,o⟩=>(fq (aK a.modes.length) m).length - j) ⟨0,dz p b k⟩ ?_ ?_ ?_
   rotate_left
   ·(repeat' ((conv=>whnf)<;>(first|exact trivial|exact rfl|with_reducible refine And.intro ?_ ?_)))<;>((conv=>whnf)<;>(simp [Lit.av]))
   rotate_left
   ·exact⟨Nat.zero_le _,by simp [iQ]⟩
   rintro⟨j,o⟩ ⟨hj,ho⟩
   have hol:=wL ho
   (try simp only [List.length_append,List.length_cons,List.length_nil] at hol)
   (repeat' ((conv=>whnf);first|refine gA ?_|(refine gB ?_ ?_<;>intro h)|(refine gI ?_;intro x hx)|(refine gJ ?_;intro j x hj hx)|refine gP ?_|refine gV ?_|intro _))<;>try (conv=>whnf)
   ·refine nw ⟨j+1,o++[⟨4,k,x⟩]⟩ ?_ ?_
    ·(repeat' ((conv=>whnf)<;>(first|exact trivial|exact rfl|with_reducible refine And.intro ?_ ?_)))<;>((conv=>whnf)<;>(simp [Lit.av]))
    exact⟨by omega,tJ ho hx⟩
   ·refine nw (k+1) ?_ ?_
    ·(repeat' ((conv=>whnf)<;>(first|exact trivial|exact rfl|with_reducible refine And.intro ?_ ?_)))<;>((conv=>whnf)<;>((rw [← hnx];simp [wK ho (by omega)])))
    exact (by omega:k+1≤p.acts.length)
  ·exact trivial
def qm (p:Proj) (b:Dom):List Lit:=(jW p b).map negate
theorem Yq (p:Proj) (b:Dom):(jW p b).map (fun x=>(negate x).av)=(qm p b).map Lit.av:=by rw [qm,List.map_map];rfl
theorem yZ (p:Proj) (b:Dom) (hp:p.fine):Con 175 [.d p.av,.d b.av] (.own 82 ((qm p b).map Lit.av)):=by
 refine con Tryz.func175 rfl rfl Tryz.call175 rfl fun hwf=>?_
 have hd:=Hy p b
 (repeat' ((conv=>whnf);first|refine gA ?_|(refine gB ?_ ?_<;>intro h)|(refine gI ?_;intro x hx)|(refine gJ ?_;intro j x hj hx)|refine gP ?_|refine gV ?_|refine gC (Ah p b hp) ?_|intro _))<;>try (conv=>whnf)
 refine aB [11,12] [] [8] ?_
 (conv=>whnf)
 refine aA.go ((Nat)) (fun k=>(k≤(jW p b).length)) (fun k=>[(13,.data (i64 k)),(5,.own 8 0)]) (fun _=>[]) (fun k=>[(8,82,((jW p b).take k).map (fun x=>(negate x).av),0)]) (fun k=>(jW p b).length - k) (0) ?_ ?_
 ·exact Nat.zero_le _
 rintro k hk
 (repeat' ((conv=>whnf);first|refine gA ?_|(refine gB ?_ ?_<;>intro h)|(refine gI ?_;intro x hx)|(refine gJ ?_;intro j x hj hx)|refine gP ?_|refine gV ?_|refine gC (pz x) ?_|intro _))<;>try (conv=>whnf)
 ·refine nw (k+1) ?_ ?_
  ·(repeat' ((conv=>whnf)<;>(first|exact trivial|exact rfl|with_reducible refine And.intro ?_ ?_)))<;>((conv=>whnf)<;>(exact iF _ hx))
  exact (by omega:k+1≤(jW p b).length)
 ·(repeat' ((conv=>whnf)<;>(first|exact trivial|exact VC.nod (by kernel_rfl)|refine VC.mk rfl ?_|refine VC.mk (by dsimp only;rw [List.take_of_length_le (by omega),Yq]) ?_)))
def explain (p:Proj) (b:Dom) (r:Rul):List Lit:=if refutes p b r=true then ng p r (fun _=>false) (cB (qm p b)) else []
end Go.Proofs.YtefgamefajmdkaaGreat.Abs
