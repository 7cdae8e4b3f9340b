/- Contracts: a domain's literals; refutations are explained. -/
import Derived.Test.YtgkfifiobmklcaaGreatNd
set_option linter.all false
set_option maxRecDepth 20000
set_option maxHeartbeats 0
namespace Go.Proofs.YtgkfifiobmklcaaGreat.Abs
open Go.Proofs
def fI (a b:List Int):List Int:=setOf (a.filter fun n=> !b.contains n)
theorem Bp (k:Int) (b:List Int):Con 255 [.d (i64 k),.ref (ints b)] (.d (.bool (!b.contains k))):=by
 refine con Tryz.func255 rfl rfl Tryz.call255 rfl fun hwf=>?_
 (repeat' ((conv=>whnf);first|refine gA ?_|(refine gB ?_ ?_<;>intro h)|refine gC (qG b k) ?_|intro _))<;>try (conv=>whnf)
 all_goals exact⟨rfl,rfl,trivial⟩
theorem Dy (a b:List Int):Con 220 [.d (ints a),.d (ints b)] (.d (ints (fI a b))):=by
 refine con Tryz.func220 rfl rfl Tryz.call220 rfl fun hwf=>?_
 (repeat' ((conv=>whnf);first|refine gA ?_|(refine gB ?_ ?_<;>intro h)|refine gC (Hr a 255 [ints b] _ fun x=>Bp x b) ?_|refine gC (qb (a.filter fun n=> !b.contains n)) ?_|intro _))<;>try (conv=>whnf)
 all_goals exact⟨rfl,rfl,trivial⟩
def uM (k:Nat) (x:Int):List Lit:=if x > 0 then [⟨1,k,x⟩] else []
def uN (d:Int) (k:Nat) (y:Int):List Lit:=if y < d - 1 then [⟨2,k,y⟩] else []
def iG (k:Nat) (l:List Int):List Lit:=l.map fun n=>⟨4,k,n⟩
def nU (p:Proj) (b:Dom) (k:Nat):List Lit:=
 match p.acts[k]?,b.lo[k]?,b.hi[k]?,b.modes[k]? with
 |some a,some x,some y,some m=>uM k x++uN p.dead k y++iG k (fI (aN a.modes.length) m)
 |_,_,_,_=>[]
def dB (p:Proj) (b:Dom):Nat→List Lit
 |0=>[]
 |k+1=>dB p b k++nU p b k
def jK (p:Proj) (b:Dom):List Lit:=if ak p b=true then dB p b p.acts.length else []
theorem oP {p:Proj} {b:Dom} {k:Nat} {a:aF} {x y:Int} {m:List Int} (g:gL p b k a x y m):nU p b k=uM k x++uN p.dead k y++iG k (fI (aN a.modes.length) m):=by
 simp only [nU,g.act,g.lo,g.hi,g.modes]
theorem FK (n:Int):(aN n).length≤200:=by
 unfold aN
 split
 ·rename_i h
  have:=within_iff.1 h
  simp;omega
 ·simp
theorem qM (n:Int) (m:List Int):(fI (aN n) m).length≤200:=by
 have h1:=jU ((aN n).filter fun n=> !m.contains n)
 have h2:=List.length_filter_le (fun n=> !m.contains n) (aN n)
 have h3:=FK n
 simp only [fI];omega
theorem Oh (p:Proj) (b:Dom) (k:Nat):(nU p b k).length≤202:=by
 unfold nU
 split
 ·rename_i a x y m _ _ _ _
  have:=qM a.modes.length m
  have h1:(uM k x).length≤1:=by unfold uM;split<;>simp
  have h2:(uN p.dead k y).length≤1:=by unfold uN;split<;>simp
  simp only [List.length_append,iG,List.length_map];omega
 ·simp
theorem mK (p:Proj) (b:Dom) (k:Nat):(dB p b k).length≤202*k:=by
 induction k with
 |zero=>simp [dB]
 |succ k ih=>
  have:=Oh p b k
  simp only [dB,List.length_append];omega
theorem Jm (p:Proj) (b:Dom):(jK p b).length≤1212:=by
 unfold jK
 split
 ·rename_i h
  have h1:=(fU (dA h).1).NV
  have h2:=mK p b p.acts.length
  omega
 ·simp
theorem uO {k j:Nat} {l:List Int} {n:Int} {o q:List Lit} (ho:o=q++iG k (l.take j)) (hn:l[j]? =some n):o++[⟨4,(k:Int),n⟩]=q++iG k (l.take (j+1)):=by
 obtain⟨hj,rfl⟩:=List.getElem?_eq_some_iff.1 hn
 rw [ho,List.take_succ_eq_append_getElem hj,iG,iG,List.map_append,List.append_assoc];rfl
theorem xW {k j:Nat} {l:List Int} {o q:List Lit} (ho:o=q++iG k (l.take j)) (hn:l.length≤j):o=q++iG k l:=by
 rw [ho,List.take_of_length_le hn]
theorem xX {k j:Nat} {l:List Int} {o q:List Lit} (ho:o=q++iG k (l.take j)):o.length≤q.length+l.length:=by
 rw [ho];simp only [List.length_append,iG,List.length_map,List.length_take];omega
theorem rT {p:Proj} {b:Dom} {k:Nat} {a:aF} {x y:Int} {m:List Int} (g:gL p b k a x y m) {u v:List Lit} (hu:uM k x=u) (hv:uN p.dead k y=v):dB p b k++u++v++iG k (fI (aN a.modes.length) m)=dB p b (k+1):=by
 rw [dB,oP g,hu,hv];simp [List.append_assoc]
theorem Bq (p:Proj) (b:Dom) (hp:p.fine):Con 174 [.d p.av,.d b.av] (.d (lits (jK p b))):=by
 refine con Tryz.func174 rfl rfl Tryz.call174 rfl fun hwf=>?_
 simp only [ARs.wf,AR.wf,AV.wf,AV.wfs,lm,lim] at hwf
 cases hf:ak p b with
 |false=>
  (repeat' ((conv=>whnf);first|with_reducible refine Br.no hf ?_|with_reducible refine Br.yes hf ?_|refine gA ?_|(refine gB ?_ ?_<;>intro h)|(refine gI ?_;intro x hx)|(refine gJ ?_;intro j x hj hx)|refine gP ?_|refine gV ?_|refine gC (aY p b hp) ?_|intro _))<;>try (conv=>whnf)
  refine⟨?_,rfl,trivial⟩
  rw [jK,if_neg (by rw [hf];exact Bool.false_ne_true)];rfl
 |true=>
  rw [jK,if_pos hf]
  obtain⟨hpo,l1,l2,l3,_⟩:=dA hf
  have hna:=(fU hpo).NV
  have hde:=(fU hpo).dead
  (repeat' ((conv=>whnf);first|with_reducible refine Br.no hf ?_|with_reducible refine Br.yes hf ?_|refine gA ?_|(refine gB ?_ ?_<;>intro h)|(refine gI ?_;intro x hx)|(refine gJ ?_;intro j x hj hx)|refine gP ?_|refine gV ?_|refine gC (aY p b hp) ?_|intro _))<;>try (conv=>whnf)
  refine aB [2,3,16,17] [2,3] [14] ?_
  (conv=>whnf)
  refine aA.go ((Nat)) (fun k=>(k≤p.acts.length)) (fun k=>[(18,.data (i64 k)),(5,.own 14 0)]) (fun _=>[]) (fun k=>[(14,39,(dB p b k).map Lit.av,0)]) (fun k=>p.acts.length - k) (0) ?_ ?_
  ·exact Nat.zero_le _
  rintro k hk
  by_cases hlt:k < p.acts.length
  rotate_left
  ·(repeat' ((conv=>whnf);first|(exfalso;omega)|refine gA ?_|(refine gB ?_ ?_<;>intro h)|(refine gI ?_;intro x hx)|(refine gJ ?_;intro j x hj hx)|refine gP ?_|refine gV ?_|intro _))<;>try (conv=>whnf)
   refine⟨?_,rfl,trivial⟩
   rw [show p.acts.length=k by omega]
  obtain⟨a,lo,up,m,g⟩:=dL hf hlt
  have hxb:=g.lob
  have hyb:=g.hib
  have hq0:=mK p b k
  (repeat' ((conv=>whnf);first|with_reducible refine Idx.got g.act rfl ?_|with_reducible refine Idx.got g.lo rfl ?_|with_reducible refine Idx.got g.hi rfl ?_|with_reducible refine Idx.got g.modes rfl ?_|refine gA ?_|(refine gB ?_ ?_<;>intro h)|(refine gI ?_;intro x hx)|(refine gJ ?_;intro j x hj hx)|refine gP ?_|refine gV ?_|refine gC (pY a) ?_|refine gC (Dy (aN a.modes.length) m) ?_|intro _))<;>try (conv=>whnf)
  ·have hu:uM k lo= [⟨1,k,lo⟩]:=if_pos (by omega)
   have hv:uN p.dead k up= [⟨2,k,up⟩]:=if_pos (by omega)
   have hd:=qM a.modes.length m
   have hq:=mK p b k
   have hnx:=rT g hu hv
   refine aB [2,3,6,16,17,18,65,66] [2,3] [14] ?_
   (conv=>whnf)
   refine aA.mk ((Nat)×(List Lit)) (fun⟨j,o⟩=>(j≤(fI (aN a.modes.length) m).length)∧(o=dB p b k++[⟨1,k,lo⟩]++[⟨2,k,up⟩]++iG k ((fI (aN a.modes.length) m).take j))) (fun⟨j,o⟩=>[(67,.data (i64 j)),(5,.own 14 0)]) (fun _=>[]) (fun⟨j,o⟩=>[(14,39,o.map Lit.av,0)]) (fun⟨j,o⟩=>(fI (aN a.modes.length) m).length - j) ⟨0,dB p b k++[⟨1,k,lo⟩]++[⟨2,k,up⟩]⟩ ?_ ?_ ?_
   rotate_left
   ·(repeat' ((conv=>whnf)<;>(first|exact trivial|exact rfl|with_reducible refine And.intro ?_ ?_)))<;>((conv=>whnf)<;>(simp [Lit.av]))
   rotate_left
   ·exact⟨Nat.zero_le _,by simp [iG]⟩
   rintro⟨j,o⟩ ⟨hj,ho⟩
   have hol:=xX ho
   (try simp only [List.length_append,List.length_cons,List.length_nil] at hol)
   (repeat' ((conv=>whnf);first|refine gA ?_|(refine gB ?_ ?_<;>intro h)|(refine gI ?_;intro x hx)|(refine gJ ?_;intro j x hj hx)|refine gP ?_|refine gV ?_|intro _))<;>try (conv=>whnf)
   ·refine nw ⟨j+1,o++[⟨4,k,x⟩]⟩ ?_ ?_
    ·(repeat' ((conv=>whnf)<;>(first|exact trivial|exact rfl|with_reducible refine And.intro ?_ ?_)))<;>((conv=>whnf)<;>(simp [Lit.av]))
    exact⟨by omega,uO ho hx⟩
   ·refine nw (k+1) ?_ ?_
    ·(repeat' ((conv=>whnf)<;>(first|exact trivial|exact rfl|with_reducible refine And.intro ?_ ?_)))<;>((conv=>whnf)<;>((rw [← hnx];simp [xW ho (by omega)])))
    exact (by omega:k+1≤p.acts.length)
  ·have hu:uM k lo= [⟨1,k,lo⟩]:=if_pos (by omega)
   have hv:uN p.dead k up= []:=if_neg (by omega)
   have hd:=qM a.modes.length m
   have hq:=mK p b k
   have hnx:=rT g hu hv
   refine aB [2,3,6,16,17,18,65,66] [2,3] [14] ?_
   (conv=>whnf)
   refine aA.mk ((Nat)×(List Lit)) (fun⟨j,o⟩=>(j≤(fI (aN a.modes.length) m).length)∧(o=dB p b k++[⟨1,k,lo⟩]++iG k ((fI (aN a.modes.length) m).take j))) (fun⟨j,o⟩=>[(67,.data (i64 j)),(5,.own 14 0)]) (fun _=>[]) (fun⟨j,o⟩=>[(14,39,o.map Lit.av,0)]) (fun⟨j,o⟩=>(fI (aN a.modes.length) m).length - j) ⟨0,dB p b k++[⟨1,k,lo⟩]⟩ ?_ ?_ ?_
   rotate_left
   ·(repeat' ((conv=>whnf)<;>(first|exact trivial|exact rfl|with_reducible refine And.intro ?_ ?_)))<;>((conv=>whnf)<;>(simp [Lit.av]))
   rotate_left
   ·exact⟨Nat.zero_le _,by simp [iG]⟩
   rintro⟨j,o⟩ ⟨hj,ho⟩
   have hol:=xX ho
   (try simp only [List.length_append,List.length_cons,List.length_nil] at hol)
   (repeat' ((conv=>whnf);first|refine gA ?_|(refine gB ?_ ?_<;>intro h)|(refine gI ?_;intro x hx)|(refine gJ ?_;intro j x hj hx)|refine gP ?_|refine gV ?_|intro _))<;>try (conv=>whnf)
   ·refine nw ⟨j+1,o++[⟨4,k,x⟩]⟩ ?_ ?_
    ·(repeat' ((conv=>whnf)<;>(first|exact trivial|exact rfl|with_reducible refine And.intro ?_ ?_)))<;>((conv=>whnf)<;>(simp [Lit.av]))
    exact⟨by omega,uO ho hx⟩
   ·refine nw (k+1) ?_ ?_
    ·(repeat' ((conv=>whnf)<;>(first|exact trivial|exact rfl|with_reducible refine And.intro ?_ ?_)))<;>((conv=>whnf)<;>((rw [← hnx];simp [xW ho (by omega)])))
    exact (by omega:k+1≤p.acts.length)
  ·have hu:uM k lo= []:=if_neg (by omega)
   have hv:uN p.dead k up= [⟨2,k,up⟩]:=if_pos (by omega)
   have hd:=qM a.modes.length m
   have hq:=mK p b k
   have hnx:=rT g hu hv
   refine aB [2,3,6,16,17,18,65,66] [2,3] [14] ?_
   (conv=>whnf)
   refine aA.mk ((Nat)×(List Lit)) (fun⟨j,o⟩=>(j≤(fI (aN a.modes.length) m).length)∧(o=dB p b k++[⟨2,k,up⟩]++iG k ((fI (aN a.modes.length) m).take j))) (fun⟨j,o⟩=>[(67,.data (i64 j)),(5,.own 14 0)]) (fun _=>[]) (fun⟨j,o⟩=>[(14,39,o.map Lit.av,0)]) (fun⟨j,o⟩=>(fI (aN a.modes.length) m).length - j) ⟨0,dB p b k++[⟨2,k,up⟩]⟩ ?_ ?_ ?_
   rotate_left
   ·(repeat' ((conv=>whnf)<;>(first|exact trivial|exact rfl|with_reducible refine And.intro ?_ ?_)))<;>((conv=>whnf)<;>(simp [Lit.av]))
   rotate_left
   ·exact⟨Nat.zero_le _,by simp [iG]⟩
   rintro⟨j,o⟩ ⟨hj,ho⟩
   have hol:=xX ho
   (try simp only [List.length_append,List.length_cons,List.length_nil] at hol)
   (repeat' ((conv=>whnf);first|refine gA ?_|(refine gB ?_ ?_<;>intro h)|(refine gI ?_;intro x hx)|(refine gJ ?_;intro j x hj hx)|refine gP ?_|refine gV ?_|intro _))<;>try (conv=>whnf)
   ·refine nw ⟨j+1,o++[⟨4,k,x⟩]⟩ ?_ ?_
    ·(repeat' ((conv=>whnf)<;>(first|exact trivial|exact rfl|with_reducible refine And.intro ?_ ?_)))<;>((conv=>whnf)<;>(simp [Lit.av]))
    exact⟨by omega,uO ho hx⟩
   ·refine nw (k+1) ?_ ?_
    ·(repeat' ((conv=>whnf)<;>(first|exact trivial|exact rfl|with_reducible refine And.intro ?_ ?_)))<;>((conv=>whnf)<;>((rw [← hnx];simp [xW ho (by omega)])))
    exact (by omega:k+1≤p.acts.length)
  ·have hu:uM k lo= []:=if_neg (by omega)
   have hv:uN p.dead k up= []:=if_neg (by omega)
   have hd:=qM a.modes.length m
   have hq:=mK p b k
   have hnx:=rT g hu hv
   refine aB [2,3,6,16,17,18,65,66] [2,3] [14] ?_
   (conv=>whnf)
   refine aA.mk ((Nat)×(List Lit)) (fun⟨j,o⟩=>(j≤(fI (aN a.modes.length) m).length)∧(o=dB p b k++iG k ((fI (aN a.modes.length) m).take j))) (fun⟨j,o⟩=>[(67,.data (i64 j)),(5,.own 14 0)]) (fun _=>[]) (fun⟨j,o⟩=>[(14,39,o.map Lit.av,0)]) (fun⟨j,o⟩=>(fI (aN a.modes.length) m).length - j) ⟨0,dB p b k⟩ ?_ ?_ ?_
   rotate_left
   ·(repeat' ((conv=>whnf)<;>(first|exact trivial|exact rfl|with_reducible refine And.intro ?_ ?_)))<;>((conv=>whnf)<;>(simp [Lit.av]))
   rotate_left
   ·exact⟨Nat.zero_le _,by simp [iG]⟩
   rintro⟨j,o⟩ ⟨hj,ho⟩
   have hol:=xX ho
   (try simp only [List.length_append,List.length_cons,List.length_nil] at hol)
   (repeat' ((conv=>whnf);first|refine gA ?_|(refine gB ?_ ?_<;>intro h)|(refine gI ?_;intro x hx)|(refine gJ ?_;intro j x hj hx)|refine gP ?_|refine gV ?_|intro _))<;>try (conv=>whnf)
   ·refine nw ⟨j+1,o++[⟨4,k,x⟩]⟩ ?_ ?_
    ·(repeat' ((conv=>whnf)<;>(first|exact trivial|exact rfl|with_reducible refine And.intro ?_ ?_)))<;>((conv=>whnf)<;>(simp [Lit.av]))
    exact⟨by omega,uO ho hx⟩
   ·refine nw (k+1) ?_ ?_
    ·(repeat' ((conv=>whnf)<;>(first|exact trivial|exact rfl|with_reducible refine And.intro ?_ ?_)))<;>((conv=>whnf)<;>((rw [← hnx];simp [xW ho (by omega)])))
    exact (by omega:k+1≤p.acts.length)
  ·exact trivial
def nN (p:Proj) (b:Dom):List Lit:=(jK p b).map negate
theorem abl (p:Proj) (b:Dom):(jK p b).map (fun x=>(negate x).av)=(nN p b).map Lit.av:=by rw [nN,List.map_map];rfl
theorem Ab (p:Proj) (b:Dom) (hp:p.fine):Con 108 [.d p.av,.d b.av] (.own 39 ((nN p b).map Lit.av)):=by
 refine con Tryz.func108 rfl rfl Tryz.call108 rfl fun hwf=>?_
 have hd:=Jm p b
 (repeat' ((conv=>whnf);first|refine gA ?_|(refine gB ?_ ?_<;>intro h)|(refine gI ?_;intro x hx)|(refine gJ ?_;intro j x hj hx)|refine gP ?_|refine gV ?_|refine gC (Bq p b hp) ?_|intro _))<;>try (conv=>whnf)
 refine aB [11,12] [] [8] ?_
 (conv=>whnf)
 refine aA.go ((Nat)) (fun k=>(k≤(jK p b).length)) (fun k=>[(13,.data (i64 k)),(5,.own 8 0)]) (fun _=>[]) (fun k=>[(8,39,((jK p b).take k).map (fun x=>(negate x).av),0)]) (fun k=>(jK p b).length - k) (0) ?_ ?_
 ·exact Nat.zero_le _
 rintro k hk
 (repeat' ((conv=>whnf);first|refine gA ?_|(refine gB ?_ ?_<;>intro h)|(refine gI ?_;intro x hx)|(refine gJ ?_;intro j x hj hx)|refine gP ?_|refine gV ?_|refine gC (qI x) ?_|intro _))<;>try (conv=>whnf)
 ·refine nw (k+1) ?_ ?_
  ·(repeat' ((conv=>whnf)<;>(first|exact trivial|exact rfl|with_reducible refine And.intro ?_ ?_)))<;>((conv=>whnf)<;>(exact gX _ hx))
  exact (by omega:k+1≤(jK p b).length)
 ·(repeat' ((conv=>whnf)<;>(first|exact trivial|exact VC.nod (by kernel_rfl)|refine VC.mk rfl ?_|refine VC.mk (by dsimp only;rw [List.take_of_length_le (by omega),abl]) ?_)))
def explain (p:Proj) (b:Dom) (r:Rul):List Lit:=if refutes p b r=true then qc p r (fun _=>false) (bH (nN p b)) else []
theorem wI (x:Lit):Con 196 [.d x.av] (.d (.bool false)):=by
 refine con Tryz.func196 rfl rfl Tryz.call196 rfl fun hwf=>?_
 (repeat' ((conv=>whnf);first|refine gA ?_|(refine gB ?_ ?_<;>intro h)|intro _))<;>try (conv=>whnf)
 all_goals exact⟨rfl,rfl,trivial⟩
theorem FL {p:Proj} {b:Dom} {r:Rul} (h:refutes p b r=true):ak p b=true:=by
 simp only [refutes,Bool.and_eq_true] at h
 exact h.1
end Go.Proofs.YtgkfifiobmklcaaGreat.Abs
