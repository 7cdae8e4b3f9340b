/- Contracts: a domain's literals; refutations are explained. -/
import Derived.Test.YtjfnojijdggfhaaGreatNd
set_option linter.all false
set_option maxRecDepth 20000
set_option maxHeartbeats 0
namespace Go.Proofs.YtjfnojijdggfhaaGreat.Abs
open Go.Proofs
def eT (a b:List Int):List Int:=setOf (a.filter fun n=> !b.contains n)
theorem yO (k:Int) (b:List Int):Con 196 [.d (i64 k),.ref (ints b)] (.d (.bool (!b.contains k))):=by
 refine con Tryz.func196 rfl rfl Tryz.call196 rfl fun hwf=>?_
 (repeat' ((conv=>whnf);first|refine gA ?_|(refine gB ?_ ?_<;>intro h)|refine gC (nX b k) ?_|intro _))<;>try (conv=>whnf)
 all_goals exact⟨rfl,rfl,trivial⟩
theorem Ah (a b:List Int):Con 160 [.d (ints a),.d (ints b)] (.d (ints (eT a b))):=by
 refine con Tryz.func160 rfl rfl Tryz.call160 rfl fun hwf=>?_
 (repeat' ((conv=>whnf);first|refine gA ?_|(refine gB ?_ ?_<;>intro h)|refine gC (Ei a 196 [ints b] _ fun x=>yO x b) ?_|refine gC (nG (a.filter fun n=> !b.contains n)) ?_|intro _))<;>try (conv=>whnf)
 all_goals exact⟨rfl,rfl,trivial⟩
def rH (k:Nat) (x:Int):List Lit:=if x > 0 then [⟨1,k,x⟩] else []
def rJ (d:Int) (k:Nat) (y:Int):List Lit:=if y < d - 1 then [⟨2,k,y⟩] else []
def gD (k:Nat) (l:List Int):List Lit:=l.map fun n=>⟨4,k,n⟩
def mh (p:Proj) (b:Dom) (k:Nat):List Lit:=
 match p.acts[k]?,b.lo[k]?,b.hi[k]?,b.modes[k]? with
 |some a,some x,some y,some m=>rH k x++rJ p.dead k y++gD k (eT (aH a.modes.length) m)
 |_,_,_,_=>[]
def bR (p:Proj) (b:Dom):Nat→List Lit
 |0=>[]
 |k+1=>bR p b k++mh p b k
def jc (p:Proj) (b:Dom):List Lit:=if ay p b=true then bR p b p.acts.length else []
theorem mR {p:Proj} {b:Dom} {k:Nat} {a:aK} {x y:Int} {m:List Int} (g:fM p b k a x y m):mh p b k=rH k x++rJ p.dead k y++gD k (eT (aH a.modes.length) m):=by
 simp only [mh,g.act,g.lo,g.hi,g.modes]
theorem CW (n:Int):(aH n).length≤200:=by
 unfold aH
 split
 ·rename_i h
  have:=within_iff.1 h
  simp;omega
 ·simp
theorem oo (n:Int) (m:List Int):(eT (aH n) m).length≤200:=by
 have h1:=jq ((aH n).filter fun n=> !m.contains n)
 have h2:=List.length_filter_le (fun n=> !m.contains n) (aH n)
 have h3:=CW n
 simp only [eT];omega
theorem Kv (p:Proj) (b:Dom) (k:Nat):(mh p b k).length≤202:=by
 unfold mh
 split
 ·rename_i a x y m _ _ _ _
  have:=oo a.modes.length m
  have h1:(rH k x).length≤1:=by unfold rH;split<;>simp
  have h2:(rJ p.dead k y).length≤1:=by unfold rJ;split<;>simp
  simp only [List.length_append,gD,List.length_map];omega
 ·simp
theorem kU (p:Proj) (b:Dom) (k:Nat):(bR p b k).length≤202*k:=by
 induction k with
 |zero=>simp [bR]
 |succ k ih=>
  have:=Kv p b k
  simp only [bR,List.length_append];omega
theorem Fv (p:Proj) (b:Dom):(jc p b).length≤1212:=by
 unfold jc
 split
 ·rename_i h
  have h1:=(fB (cZ h).1).Ko
  have h2:=kU p b p.acts.length
  omega
 ·simp
theorem rM {k j:Nat} {l:List Int} {n:Int} {o q:List Lit} (ho:o=q++gD k (l.take j)) (hn:l[j]? =some n):o++[⟨4,(k:Int),n⟩]=q++gD k (l.take (j+1)):=by
 obtain⟨hj,rfl⟩:=List.getElem?_eq_some_iff.1 hn
 rw [ho,List.take_succ_eq_append_getElem hj,gD,gD,List.map_append,List.append_assoc];rfl
theorem vv {k j:Nat} {l:List Int} {o q:List Lit} (ho:o=q++gD k (l.take j)) (hn:l.length≤j):o=q++gD k l:=by
 rw [ho,List.take_of_length_le hn]
theorem vw {k j:Nat} {l:List Int} {o q:List Lit} (ho:o=q++gD k (l.take j)):o.length≤q.length+l.length:=by
 rw [ho];simp only [List.length_append,gD,List.length_map,List.length_take];omega
theorem pI {p:Proj} {b:Dom} {k:Nat} {a:aK} {x y:Int} {m:List Int} (g:fM p b k a x y m) {u v:List Lit} (hu:rH k x=u) (hv:rJ p.dead k y=v):bR p b k++u++v++gD k (eT (aH a.modes.length) m)=bR p b (k+1):=by
 rw [bR,mR g,hu,hv];simp [List.append_assoc]
theorem yP (p:Proj) (b:Dom) (hp:p.fine):Con 114 [.d p.av,.d b.av] (.d (lits (jc p b))):=by
 refine con Tryz.func114 rfl rfl Tryz.call114 rfl fun hwf=>?_
 simp only [ARs.wf,AR.wf,AV.wf,AV.wfs,lm,lim] at hwf
 cases hf:ay p b with
 |false=>
  (repeat' ((conv=>whnf);first|with_reducible refine Br.no hf ?_|with_reducible refine Br.yes hf ?_|refine gA ?_|(refine gB ?_ ?_<;>intro h)|(refine gI ?_;intro x hx)|(refine gJ ?_;intro j x hj hx)|refine gP ?_|refine gV ?_|refine gC (aQ p b hp) ?_|intro _))<;>try (conv=>whnf)
  refine⟨?_,rfl,trivial⟩
  rw [jc,if_neg (by rw [hf];exact Bool.false_ne_true)];rfl
 |true=>
  rw [jc,if_pos hf]
  obtain⟨hpo,l1,l2,l3,_⟩:=cZ hf
  have hna:=(fB hpo).Ko
  have hde:=(fB hpo).dead
  (repeat' ((conv=>whnf);first|with_reducible refine Br.no hf ?_|with_reducible refine Br.yes hf ?_|refine gA ?_|(refine gB ?_ ?_<;>intro h)|(refine gI ?_;intro x hx)|(refine gJ ?_;intro j x hj hx)|refine gP ?_|refine gV ?_|refine gC (aQ p b hp) ?_|intro _))<;>try (conv=>whnf)
  refine aB [2,3,16,17] [2,3] [14] ?_
  (conv=>whnf)
  refine aA.go ((Nat)) (fun k=>(k≤p.acts.length)) (fun k=>[(18,.data (i64 k)),(5,.own 14 0)]) (fun _=>[]) (fun k=>[(14,42,(bR p b k).map Lit.av,0)]) (fun k=>p.acts.length - k) (0) ?_ ?_
  ·exact Nat.zero_le _
  rintro k hk
  by_cases hlt:k < p.acts.length
  rotate_left
  ·(repeat' ((conv=>whnf);first|(exfalso;omega)|refine gA ?_|(refine gB ?_ ?_<;>intro h)|(refine gI ?_;intro x hx)|(refine gJ ?_;intro j x hj hx)|refine gP ?_|refine gV ?_|intro _))<;>try (conv=>whnf)
   refine⟨?_,rfl,trivial⟩
   rw [show p.acts.length=k by omega]
  obtain⟨a,lo,up,m,g⟩:=eP hf hlt
  have hxb:=g.lob
  have hyb:=g.hib
  have hq0:=kU p b k
  (repeat' ((conv=>whnf);first|with_reducible refine Idx.got g.act rfl ?_|with_reducible refine Idx.got g.lo rfl ?_|with_reducible refine Idx.got g.hi rfl ?_|with_reducible refine Idx.got g.modes rfl ?_|refine gA ?_|(refine gB ?_ ?_<;>intro h)|(refine gI ?_;intro x hx)|(refine gJ ?_;intro j x hj hx)|refine gP ?_|refine gV ?_|refine gC (nu a) ?_|refine gC (Ah (aH a.modes.length) m) ?_|intro _))<;>try (conv=>whnf)
  ·have hu:rH k lo= [⟨1,k,lo⟩]:=if_pos (by omega)
   have hv:rJ p.dead k up= [⟨2,k,up⟩]:=if_pos (by omega)
   have hd:=oo a.modes.length m
   have hq:=kU p b k
   have hnx:=pI g hu hv
   refine aB [2,3,6,16,17,18,65,66] [2,3] [14] ?_
   (conv=>whnf)
   refine aA.mk ((Nat)×(List Lit)) (fun⟨j,o⟩=>(j≤(eT (aH a.modes.length) m).length)∧(o=bR p b k++[⟨1,k,lo⟩]++[⟨2,k,up⟩]++gD k ((eT (aH a.modes.length) m).take j))) (fun⟨j,o⟩=>[(67,.data (i64 j)),(5,.own 14 0)]) (fun _=>[]) (fun⟨j,o⟩=>[(14,42,o.map Lit.av,0)]) (fun⟨j,o⟩=>(eT (aH a.modes.length) m).length - j) ⟨0,bR p b k++[⟨1,k,lo⟩]++[⟨2,k,up⟩]⟩ ?_ ?_ ?_
   rotate_left
   ·(repeat' ((conv=>whnf)<;>(first|exact trivial|exact rfl|with_reducible refine And.intro ?_ ?_)))<;>((conv=>whnf)<;>(simp [Lit.av]))
   rotate_left
   ·exact⟨Nat.zero_le _,by simp [gD]⟩
   rintro⟨j,o⟩ ⟨hj,ho⟩
   have hol:=vw ho
   (try simp only [List.length_append,List.length_cons,List.length_nil] at hol)
   (repeat' ((conv=>whnf);first|refine gA ?_|(refine gB ?_ ?_<;>intro h)|(refine gI ?_;intro x hx)|(refine gJ ?_;intro j x hj hx)|refine gP ?_|refine gV ?_|intro _))<;>try (conv=>whnf)
   ·refine nw ⟨j+1,o++[⟨4,k,x⟩]⟩ ?_ ?_
    ·(repeat' ((conv=>whnf)<;>(first|exact trivial|exact rfl|with_reducible refine And.intro ?_ ?_)))<;>((conv=>whnf)<;>(simp [Lit.av]))
    exact⟨by omega,rM ho hx⟩
   ·refine nw (k+1) ?_ ?_
    ·(repeat' ((conv=>whnf)<;>(first|exact trivial|exact rfl|with_reducible refine And.intro ?_ ?_)))<;>((conv=>whnf)<;>((rw [← hnx];simp [vv ho (by omega)])))
    exact (by omega:k+1≤p.acts.length)
  ·have hu:rH k lo= [⟨1,k,lo⟩]:=if_pos (by omega)
   have hv:rJ p.dead k up= []:=if_neg (by omega)
   have hd:=oo a.modes.length m
   have hq:=kU p b k
   have hnx:=pI g hu hv
   refine aB [2,3,6,16,17,18,65,66] [2,3] [14] ?_
   (conv=>whnf)
   refine aA.mk ((Nat)×(List Lit)) (fun⟨j,o⟩=>(j≤(eT (aH a.modes.length) m).length)∧(o=bR p b k++[⟨1,k,lo⟩]++gD k ((eT (aH a.modes.length) m).take j))) (fun⟨j,o⟩=>[(67,.data (i64 j)),(5,.own 14 0)]) (fun _=>[]) (fun⟨j,o⟩=>[(14,42,o.map Lit.av,0)]) (fun⟨j,o⟩=>(eT (aH a.modes.length) m).length - j) ⟨0,bR p b k++[⟨1,k,lo⟩]⟩ ?_ ?_ ?_
   rotate_left
   ·(repeat' ((conv=>whnf)<;>(first|exact trivial|exact rfl|with_reducible refine And.intro ?_ ?_)))<;>((conv=>whnf)<;>(simp [Lit.av]))
   rotate_left
   ·exact⟨Nat.zero_le _,by simp [gD]⟩
   rintro⟨j,o⟩ ⟨hj,ho⟩
   have hol:=vw ho
   (try simp only [List.length_append,List.length_cons,List.length_nil] at hol)
   (repeat' ((conv=>whnf);first|refine gA ?_|(refine gB ?_ ?_<;>intro h)|(refine gI ?_;intro x hx)|(refine gJ ?_;intro j x hj hx)|refine gP ?_|refine gV ?_|intro _))<;>try (conv=>whnf)
   ·refine nw ⟨j+1,o++[⟨4,k,x⟩]⟩ ?_ ?_
    ·(repeat' ((conv=>whnf)<;>(first|exact trivial|exact rfl|with_reducible refine And.intro ?_ ?_)))<;>((conv=>whnf)<;>(simp [Lit.av]))
    exact⟨by omega,rM ho hx⟩
   ·refine nw (k+1) ?_ ?_
    ·(repeat' ((conv=>whnf)<;>(first|exact trivial|exact rfl|with_reducible refine And.intro ?_ ?_)))<;>((conv=>whnf)<;>((rw [← hnx];simp [vv ho (by omega)])))
    exact (by omega:k+1≤p.acts.length)
  ·have hu:rH k lo= []:=if_neg (by omega)
   have hv:rJ p.dead k up= [⟨2,k,up⟩]:=if_pos (by omega)
   have hd:=oo a.modes.length m
   have hq:=kU p b k
   have hnx:=pI g hu hv
   refine aB [2,3,6,16,17,18,65,66] [2,3] [14] ?_
   (conv=>whnf)
   refine aA.mk ((Nat)×(List Lit)) (fun⟨j,o⟩=>(j≤(eT (aH a.modes.length) m).length)∧(o=bR p b k++[⟨2,k,up⟩]++gD k ((eT (aH a.modes.length) m).take j))) (fun⟨j,o⟩=>[(67,.data (i64 j)),(5,.own 14 0)]) (fun _=>[]) (fun⟨j,o⟩=>[(14,42,o.map Lit.av,0)]) (fun⟨j,o⟩=>(eT (aH a.modes.length) m).length - j) ⟨0,bR p b k++[⟨2,k,up⟩]⟩ ?_ ?_ ?_
   rotate_left
   ·(repeat' ((conv=>whnf)<;>(first|exact trivial|exact rfl|with_reducible refine And.intro ?_ ?_)))<;>((conv=>whnf)<;>(simp [Lit.av]))
   rotate_left
   ·exact⟨Nat.zero_le _,by simp [gD]⟩
   rintro⟨j,o⟩ ⟨hj,ho⟩
   have hol:=vw ho
   (try simp only [List.length_append,List.length_cons,List.length_nil] at hol)
   (repeat' ((conv=>whnf);first|refine gA ?_|(refine gB ?_ ?_<;>intro h)|(refine gI ?_;intro x hx)|(refine gJ ?_;intro j x hj hx)|refine gP ?_|refine gV ?_|intro _))<;>try (conv=>whnf)
   ·refine nw ⟨j+1,o++[⟨4,k,x⟩]⟩ ?_ ?_
    ·(repeat' ((conv=>whnf)<;>(first|exact trivial|exact rfl|with_reducible refine And.intro ?_ ?_)))<;>((conv=>whnf)<;>(simp [Lit.av]))
    exact⟨by omega,rM ho hx⟩
   ·refine nw (k+1) ?_ ?_
    ·(repeat' ((conv=>whnf)<;>(first|exact trivial|exact rfl|with_reducible refine And.intro ?_ ?_)))<;>((conv=>whnf)<;>((rw [← hnx];simp [vv ho (by omega)])))
    exact (by omega:k+1≤p.acts.length)
  ·have hu:rH k lo= []:=if_neg (by omega)
   have hv:rJ p.dead k up= []:=if_neg (by omega)
   have hd:=oo a.modes.length m
   have hq:=kU p b k
   have hnx:=pI g hu hv
   refine aB [2,3,6,16,17,18,65,66] [2,3] [14] ?_
   (conv=>whnf)
   refine aA.mk ((Nat)×(List Lit)) (fun⟨j,o⟩=>(j≤(eT (aH a.modes.length) m).length)∧(o=bR p b k++gD k ((eT (aH a.modes.length) m).take j))) (fun⟨j,o⟩=>[(67,.data (i64 j)),(5,.own 14 0)]) (fun _=>[]) (fun⟨j,o⟩=>[(14,42,o.map Lit.av,0)]) (fun⟨j,o⟩=>(eT (aH a.modes.length) m).length - j) ⟨0,bR p b k⟩ ?_ ?_ ?_
   rotate_left
   ·(repeat' ((conv=>whnf)<;>(first|exact trivial|exact rfl|with_reducible refine And.intro ?_ ?_)))<;>((conv=>whnf)<;>(simp [Lit.av]))
   rotate_left
   ·exact⟨Nat.zero_le _,by simp [gD]⟩
   rintro⟨j,o⟩ ⟨hj,ho⟩
   have hol:=vw ho
   (try simp only [List.length_append,List.length_cons,List.length_nil] at hol)
   (repeat' ((conv=>whnf);first|refine gA ?_|(refine gB ?_ ?_<;>intro h)|(refine gI ?_;intro x hx)|(refine gJ ?_;intro j x hj hx)|refine gP ?_|refine gV ?_|intro _))<;>try (conv=>whnf)
   ·refine nw ⟨j+1,o++[⟨4,k,x⟩]⟩ ?_ ?_
    ·(repeat' ((conv=>whnf)<;>(first|exact trivial|exact rfl|with_reducible refine And.intro ?_ ?_)))<;>((conv=>whnf)<;>(simp [Lit.av]))
    exact⟨by omega,rM ho hx⟩
   ·refine nw (k+1) ?_ ?_
    ·(repeat' ((conv=>whnf)<;>(first|exact trivial|exact rfl|with_reducible refine And.intro ?_ ?_)))<;>((conv=>whnf)<;>((rw [← hnx];simp [vv ho (by omega)])))
    exact (by omega:k+1≤p.acts.length)
  ·exact trivial
def mY (p:Proj) (b:Dom):List Lit:=(jc p b).map negate
theorem Xf (p:Proj) (b:Dom):(jc p b).map (fun x=>(negate x).av)=(mY p b).map Lit.av:=by rw [mY,List.map_map];rfl
theorem qI (p:Proj) (b:Dom) (hp:p.fine):Con 43 [.d p.av,.d b.av] (.own 42 ((mY p b).map Lit.av)):=by
 refine con Tryz.func43 rfl rfl Tryz.call43 rfl fun hwf=>?_
 have hd:=Fv p b
 (repeat' ((conv=>whnf);first|refine gA ?_|(refine gB ?_ ?_<;>intro h)|(refine gI ?_;intro x hx)|(refine gJ ?_;intro j x hj hx)|refine gP ?_|refine gV ?_|refine gC (yP p b hp) ?_|intro _))<;>try (conv=>whnf)
 refine aB [11,12] [] [8] ?_
 (conv=>whnf)
 refine aA.go ((Nat)) (fun k=>(k≤(jc p b).length)) (fun k=>[(13,.data (i64 k)),(5,.own 8 0)]) (fun _=>[]) (fun k=>[(8,42,((jc p b).take k).map (fun x=>(negate x).av),0)]) (fun k=>(jc p b).length - k) (0) ?_ ?_
 ·exact Nat.zero_le _
 rintro k hk
 (repeat' ((conv=>whnf);first|refine gA ?_|(refine gB ?_ ?_<;>intro h)|(refine gI ?_;intro x hx)|(refine gJ ?_;intro j x hj hx)|refine gP ?_|refine gV ?_|refine gC (rC x) ?_|intro _))<;>try (conv=>whnf)
 ·refine nw (k+1) ?_ ?_
  ·(repeat' ((conv=>whnf)<;>(first|exact trivial|exact rfl|with_reducible refine And.intro ?_ ?_)))<;>((conv=>whnf)<;>(exact iP _ hx))
  exact (by omega:k+1≤(jc p b).length)
 ·(repeat' ((conv=>whnf)<;>(first|exact trivial|exact VC.nod (by kernel_rfl)|refine VC.mk rfl ?_|refine VC.mk (by dsimp only;rw [List.take_of_length_le (by omega),Xf]) ?_)))
def explain (p:Proj) (b:Dom) (r:Rul):List Lit:=if refutes p b r=true then mg p r (fun _=>false) (dB (mY p b)) else []
theorem tV (x:Lit):Con 44 [.d x.av] (.d (.bool false)):=by
 refine con Tryz.func44 rfl rfl Tryz.call44 rfl fun hwf=>?_
 (repeat' ((conv=>whnf);first|refine gA ?_|(refine gB ?_ ?_<;>intro h)|intro _))<;>try (conv=>whnf)
 all_goals exact⟨rfl,rfl,trivial⟩
theorem mU (p:Proj) (b:Dom) (r:Rul) (hp:p.fine):Con 9 [.d p.av,.d b.av,.d r.av] (.fr ((explain p b r).map Lit.av)):=by
 refine con Tryz.func9 rfl rfl Tryz.call9 rfl fun hwf=>?_
 (repeat' ((conv=>whnf);first|refine gA ?_|(refine gB ?_ ?_<;>intro h)|refine gC (fJ p b r hp) ?_|refine gC (qI p b hp) ?_|refine gC (qH (mY p b)) ?_|refine gC (qG p r (dB (mY p b)) 44 [] _ hp (fun x=>tV x)) ?_|intro _))<;>try (conv=>whnf)
 all_goals refine⟨?_,rfl,trivial⟩
 ·rw [explain,if_pos (by assumption)]
 ·rw [explain,if_neg (by simp [*])];rfl
theorem vB {p:Proj} {b:Dom} {r:Rul} (h:refutes p b r=true):ay p b=true:=by
 simp only [refutes,Bool.and_eq_true] at h
 exact h.1
end Go.Proofs.YtjfnojijdggfhaaGreat.Abs
