/- Contracts: rules of projects, one behind the other: the program. -/
import Derived.Test.YtpfgedlimdeffaaGreatC11
import Derived.Test.YtpfgedlimdeffaaGreatPlain
set_option linter.all false
set_option maxRecDepth 20000
set_option maxHeartbeats 0
namespace Go.Proofs.YtpfgedlimdeffaaGreat.Abs
open Go.Proofs
theorem jf {p:Proj} (h:aY p=true):(1≤p.acts.length∧p.acts.length≤6)∧p.aU.length≤3∧p.aL.length≤2∧p.links.length≤12:=by
 simp only [aY,rJ,Bool.and_eq_true,within_iff,Bool.not_eq_true',decide_eq_false_iff_not] at h
 omega
theorem Pj (p:Proj) (hok:aY p=true):Con 124 [.d p.av] (.d (.sl ((fu p).map Rul.av))):=by
 refine con Tryz.func124 rfl rfl Tryz.call124 rfl fun hwf=>?_
 simp only [ARs.wf,AR.wf,AV.wf,AV.wfs,lm,lim] at hwf
 obtain⟨ha,hr,hs,hl⟩:=jf hok
 (repeat' ((conv=>whnf);first|refine gA ?_|(refine gB ?_ ?_<;>intro h)|refine gP ?_|refine gV ?_|intro _))<;>try (conv=>whnf)
 refine aG [1,15] [1] [12] ?_
 (conv=>whnf)
 refine aC.go ((Nat)×(List Rul)) (fun⟨k,o⟩=>(k≤p.links.length)∧(o.length≤k)∧(o=(List.range k).map fV)) (fun⟨k,o⟩=>[(16,.data (i64 k)),(3,.own 12 0)]) (fun _=>[]) (fun⟨k,o⟩=>[(12,138,o.map Rul.av,0)]) (fun⟨k,o⟩=>p.links.length - k) ⟨0,[]⟩ ?_ ?_
 ·exact⟨by omega,by simp,rfl⟩
 rintro⟨k,o⟩ ⟨hk,ol,ho⟩
 by_cases hlt:k < p.links.length
 ·(repeat' ((conv=>whnf);first|refine gA ?_|(refine gB ?_ ?_<;>intro h)|refine gP ?_|refine gV ?_|intro _))<;>try (conv=>whnf)
  ·refine nw ⟨k+1,o++[fV k]⟩ ?_ ?_
   ·(repeat' ((conv=>whnf)<;>(first|exact trivial|exact rfl|with_reducible refine And.intro ?_ ?_)))<;>((conv=>whnf)<;>((simp [fV]<;>rfl)))
   exact⟨by omega,by simp;omega,by rw [ho,List.range_succ,List.map_append];rfl⟩
  ·exfalso;omega
 (repeat' ((conv=>whnf);first|(exfalso;omega)|refine gA ?_|(refine gB ?_ ?_<;>intro h)|refine gP ?_|refine gV ?_|intro _))<;>try (conv=>whnf)
 rw [show k=p.links.length by omega] at ho ol
 clear hlt hk
 refine aG [1,27] [1] [12] ?_
 (conv=>whnf)
 refine aC.go ((Nat)×(List Rul)) (fun⟨k2,o2⟩=>(k2≤p.acts.length)∧(o2.length≤12+k2)∧(o2=o++(List.range k2).map endRule)) (fun⟨k2,o2⟩=>[(28,.data (i64 k2)),(3,.own 12 0)]) (fun _=>[]) (fun⟨k2,o2⟩=>[(12,138,o2.map Rul.av,0)]) (fun⟨k2,o2⟩=>p.acts.length - k2) ⟨0,o⟩ ?_ ?_
 ·exact⟨by omega,by omega,by simp⟩
 rintro⟨k2,o2⟩ ⟨hk2,ol2,ho2⟩
 by_cases hlt:k2 < p.acts.length
 ·(repeat' ((conv=>whnf);first|refine gA ?_|(refine gB ?_ ?_<;>intro h)|refine gP ?_|refine gV ?_|intro _))<;>try (conv=>whnf)
  ·refine nw ⟨k2+1,o2++[endRule k2]⟩ ?_ ?_
   ·(repeat' ((conv=>whnf)<;>(first|exact trivial|exact rfl|with_reducible refine And.intro ?_ ?_)))<;>((conv=>whnf)<;>((simp [endRule]<;>rfl)))
   exact⟨by omega,by simp;omega,by rw [ho2,List.range_succ,List.map_append,List.append_assoc];rfl⟩
  ·exfalso;omega
 (repeat' ((conv=>whnf);first|(exfalso;omega)|refine gA ?_|(refine gB ?_ ?_<;>intro h)|refine gP ?_|refine gV ?_|intro _))<;>try (conv=>whnf)
 rw [show k2=p.acts.length by omega] at ho2 ol2
 clear hlt hk2
 refine aG [1,39] [1] [12] ?_
 (conv=>whnf)
 refine aC.go ((Nat)×(List Rul)) (fun⟨r,o3⟩=>(r≤p.aU.length)∧(o3.length≤18+61*r)∧(o3=o2++(List.range r).flatMap qV)) (fun⟨r,o3⟩=>[(40,.data (i64 r)),(3,.own 12 0)]) (fun _=>[]) (fun⟨r,o3⟩=>[(12,138,o3.map Rul.av,0)]) (fun⟨r,o3⟩=>p.aU.length - r) ⟨0,o2⟩ ?_ ?_
 ·exact⟨by omega,by omega,by simp⟩
 rintro⟨r,o3⟩ ⟨hk3,ol3,ho3⟩
 by_cases hlt:r < p.aU.length
 ·(repeat' ((conv=>whnf);first|(exfalso;omega)|refine gA ?_|(refine gB ?_ ?_<;>intro h)|refine gP ?_|refine gV ?_|intro _))<;>try (conv=>whnf)
  refine aG [1,6,39,40] [1] [12] ?_
  (conv=>whnf)
  refine aC.go ((Nat)×(List Rul)) (fun⟨t,o4⟩=>(t≤61)∧(o4.length≤18+61*r+t)∧(o4=o3++(List.range t).map (ji r))) (fun⟨t,o4⟩=>[(43,.data (i64 t)),(3,.own 12 0)]) (fun _=>[]) (fun⟨t,o4⟩=>[(12,138,o4.map Rul.av,0)]) (fun⟨t,o4⟩=>61 - t) ⟨0,o3⟩ ?_ ?_
  ·exact⟨by omega,by omega,by simp⟩
  rintro⟨t,o4⟩ ⟨hk4,ol4,ho4⟩
  by_cases ZT:t < 61
  ·(repeat' ((conv=>whnf);first|(exfalso;omega)|refine gA ?_|(refine gB ?_ ?_<;>intro h)|refine gP ?_|refine gV ?_|intro _))<;>try (conv=>whnf)
   refine nw ⟨t+1,o4++[ji r t]⟩ ?_ ?_
   ·(repeat' ((conv=>whnf)<;>(first|exact trivial|exact rfl|with_reducible refine And.intro ?_ ?_)))<;>((conv=>whnf)<;>((simp [ji]<;>rfl)))
   exact⟨by omega,by simp;omega,by rw [ho4,List.range_succ,List.map_append,List.append_assoc];rfl⟩
  ·(repeat' ((conv=>whnf);first|(exfalso;omega)|refine gA ?_|(refine gB ?_ ?_<;>intro h)|refine gP ?_|refine gV ?_|intro _))<;>try (conv=>whnf)
   refine nx ⟨r+1,o4⟩ ?_
   refine⟨by omega,by omega,?_⟩
   rw [ho4,ho3,List.range_succ,List.flatMap_append,show t=61 by omega]
   simp [qV]
 (repeat' ((conv=>whnf);first|(exfalso;omega)|refine gA ?_|(refine gB ?_ ?_<;>intro h)|refine gP ?_|refine gV ?_|intro _))<;>try (conv=>whnf)
 rw [show r=p.aU.length by omega] at ho3 ol3
 clear hlt hk3
 refine aG [1,56] [1] [12] ?_
 (conv=>whnf)
 refine aC.go ((Nat)×(List Rul)) (fun⟨r5,o5⟩=>(r5≤p.aU.length)∧(o5.length≤201+36*r5)∧(o5=o3++(List.range r5).flatMap (fun r=>(List.range p.acts.length).flatMap (jY p r)))) (fun⟨r5,o5⟩=>[(57,.data (i64 r5)),(3,.own 12 0)]) (fun _=>[]) (fun⟨r5,o5⟩=>[(12,138,o5.map Rul.av,0)]) (fun⟨r5,o5⟩=>p.aU.length - r5) ⟨0,o3⟩ ?_ ?_
 ·exact⟨by omega,by omega,by simp⟩
 rintro⟨r5,o5⟩ ⟨hk5,ol5,ho5⟩
 by_cases hlt:r5 < p.aU.length
 ·(repeat' ((conv=>whnf);first|(exfalso;omega)|refine gA ?_|(refine gB ?_ ?_<;>intro h)|refine gP ?_|refine gV ?_|intro _))<;>try (conv=>whnf)
  refine aG [1,8,56,57,62] [1] [12] ?_
  (conv=>whnf)
  refine aC.go ((Nat)×(List Rul)) (fun⟨b,o6⟩=>(b≤p.acts.length)∧(o6.length≤201+36*r5+6*b)∧(o6=o5++(List.range b).flatMap (jY p r5))) (fun⟨b,o6⟩=>[(63,.data (i64 b)),(3,.own 12 0)]) (fun _=>[]) (fun⟨b,o6⟩=>[(12,138,o6.map Rul.av,0)]) (fun⟨b,o6⟩=>p.acts.length - b) ⟨0,o5⟩ ?_ ?_
  ·exact⟨by omega,by omega,by simp⟩
  rintro⟨b,o6⟩ ⟨hk6,ol6,ho6⟩
  by_cases ZU:b < p.acts.length
  ·(repeat' ((conv=>whnf);first|(exfalso;omega)|refine gA ?_|(refine gB ?_ ?_<;>intro h)|refine gP ?_|refine gV ?_|intro _))<;>try (conv=>whnf)
   refine aG [1,8,9,56,57,62,63] [1] [12] ?_
   (conv=>whnf)
   refine aC.go ((Nat)×(Int)×(List Rul)) (fun⟨j,c,o7⟩=>(c=b+1+j)∧(b+1+j≤p.acts.length)∧(fC p r5=false→j=0)∧(o7.length≤o6.length+j)∧(o7=o6++(List.range j).map (fun i=>iR r5 b (b+1+i)))) (fun⟨j,c,o7⟩=>[(10,.data (i64 c)),(3,.own 12 0)]) (fun _=>[]) (fun⟨j,c,o7⟩=>[(12,138,o7.map Rul.av,0)]) (fun⟨j,c,o7⟩=>p.acts.length - j) ⟨0,(b:Int)+1,o6⟩ ?_ ?_
   ·exact⟨by omega,by omega,fun _=>rfl,by omega,by simp⟩
   rintro⟨j,c,o7⟩ ⟨hc,hj,hz,ol7,ho7⟩
   cases hm:fC p r5 with
   |true=>
    (repeat' ((conv=>whnf);first|refine gA ?_|(refine gB ?_ ?_<;>intro h)|refine gP ?_|refine gV ?_|refine gC (fZ p _) ?_|intro _))<;>try (conv=>whnf)
    ·refine nw ⟨j+1,c+1,o7++[iR r5 b (b+1+j)]⟩ ?_ ?_
     ·(repeat' ((conv=>whnf)<;>(first|exact trivial|exact rfl|with_reducible refine And.intro ?_ ?_)))<;>((conv=>whnf)<;>((subst hc;simp [iR,Int.natCast_add];try rfl)))
     exact⟨by omega,by omega,(fun e=>by cases e),(by simp;omega),by rw [ho7,List.range_succ,List.map_append,List.append_assoc];rfl⟩
    ·refine nx ⟨b+1,o7⟩ ?_
     refine⟨by omega,by omega,?_⟩
     rw [ho7,ho6,List.range_succ,List.flatMap_append,List.append_assoc,show j=p.acts.length - (b+1) by omega]
     simp [jY,hm]
   |false=>
    have hj0:=hz hm
    subst hj0
    (repeat' ((conv=>whnf);first|refine gA ?_|(refine gB ?_ ?_<;>intro h)|refine gP ?_|refine gV ?_|refine gC (fZ p _) ?_|intro _))<;>try (conv=>whnf)
    all_goals
     refine nx ⟨b+1,o7⟩ ?_
     refine⟨by omega,by omega,?_⟩
     rw [ho7,ho6,List.range_succ,List.flatMap_append,List.append_assoc]
     simp [jY,hm]
  ·(repeat' ((conv=>whnf);first|(exfalso;omega)|refine gA ?_|(refine gB ?_ ?_<;>intro h)|refine gP ?_|refine gV ?_|intro _))<;>try (conv=>whnf)
   refine nx ⟨r5+1,o6⟩ ?_
   refine⟨by omega,by omega,?_⟩
   rw [ho6,ho5,List.range_succ,List.flatMap_append,List.append_assoc,show b=p.acts.length by omega]
   simp
 (repeat' ((conv=>whnf);first|(exfalso;omega)|refine gA ?_|(refine gB ?_ ?_<;>intro h)|refine gP ?_|refine gV ?_|intro _))<;>try (conv=>whnf)
 rw [show r5=p.aU.length by omega] at ho5 ol5
 clear hlt hk5
 refine aG [91] [] [12] ?_
 (conv=>whnf)
 refine aC.go ((Nat)×(List Rul)) (fun⟨k8,o8⟩=>(k8≤p.aL.length)∧(o8.length≤400+k8)∧(o8=o5++(List.range k8).map gT)) (fun⟨k8,o8⟩=>[(92,.data (i64 k8)),(3,.own 12 0)]) (fun _=>[]) (fun⟨k8,o8⟩=>[(12,138,o8.map Rul.av,0)]) (fun⟨k8,o8⟩=>p.aL.length - k8) ⟨0,o5⟩ ?_ ?_
 ·exact⟨by omega,by omega,by simp⟩
 rintro⟨k8,o8⟩ ⟨hk8,ol8,ho8⟩
 by_cases hlt:k8 < p.aL.length
 ·(repeat' ((conv=>whnf);first|(exfalso;omega)|refine gA ?_|(refine gB ?_ ?_<;>intro h)|refine gP ?_|refine gV ?_|intro _))<;>try (conv=>whnf)
  refine nw ⟨k8+1,o8++[gT k8]⟩ ?_ ?_
  ·(repeat' ((conv=>whnf)<;>(first|exact trivial|exact rfl|with_reducible refine And.intro ?_ ?_)))<;>((conv=>whnf)<;>((simp [gT]<;>rfl)))
  exact⟨by omega,by simp;omega,by rw [ho8,List.range_succ,List.map_append,List.append_assoc];rfl⟩
 (repeat' ((conv=>whnf);first|(exfalso;omega)|refine gA ?_|(refine gB ?_ ?_<;>intro h)|refine gP ?_|refine gV ?_|intro _))<;>try (conv=>whnf)
 refine⟨?_,rfl,trivial⟩
 rw [ho8,ho5,ho3,ho2,ho,show k8=p.aL.length by omega];rfl
end Go.Proofs.YtpfgedlimdeffaaGreat.Abs
