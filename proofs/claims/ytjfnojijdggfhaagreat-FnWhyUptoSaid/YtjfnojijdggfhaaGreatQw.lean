/- slices.Delete over literals; a clause without the literal at a place. -/
import Derived.Deep.RegionLaw
import Derived.OwnWalk
import Derived.Test.YtjfnojijdggfhaaGreatWo
import Derived.Test.YtjfnojijdggfhaaGreatCmp
import Derived.Test.YtjfnojijdggfhaaGreatSq
set_option linter.all false
set_option maxRecDepth 1000000
set_option maxHeartbeats 4000000
namespace Go.Proofs.YtjfnojijdggfhaaGreat.Abs
open Go.Proofs Go.RowKit Go.Sort
theorem Xn:(Tryz.prog.info? 42).map (fun i=>(i.zero,i.size,i.bytes))=some (some (.agg #[.int .i64 0,.int .i64 0,.int .i64 0]),3,24):=by kernel_rfl
theorem Au:∀(l:List Lit) (i:Nat),bB (l.drop i)=(bB l).drop (3*i)
 |[],i=>by simp [bB]
 |x::l,0=>by simp [bB]
 |x::l,i+1=>by
  rw [show 3*(i+1)=3*i+1+1+1 by omega]
  simp only [List.drop_succ_cons,bB,Au l i]
theorem vP:∀(l m:List Lit),bB (l++m)=bB l++bB m
 |[],m=>rfl
 |x::l,m=>by simp only [List.cons_append,bB,vP l m]
theorem SE {l:List Lit} {i b cap:Nat} {w:World} (hD:DW 42 3 w w b cap (bB l)) (hcap:l.length≤cap) (hi:i < l.length):
  Calls Tryz.prog 53 #[.slice (some ⟨b,0,none⟩) l.length cap,.int .i64 i,.int .i64 ((i:Int)+1)] w (Tz w b cap (l.eraseIdx i)):=by
 obtain⟨i0,hi0,hz0,hz1,hz2⟩:=info_parts Xn
 have hfl:=bZ l
 obtain⟨news,hnews⟩:∃news,news=(bB (l.drop (i+1))).map (Value.int .i64):=⟨_,rfl⟩
 have hlen:news.length=(l.length - (i+1))*3:=by rw [hnews,List.length_map,bZ,List.length_drop];omega
 have s1:Hid (news.length=(l.length - (i+1))*3):=hlen
 have s2:Hid (∀u∈news,u.oneCell'=true):=by
  intro u hu
  rw [hnews] at hu
  obtain⟨x,_,rfl⟩:=List.mem_map.1 hu
  rfl
 have hcell:∀t u,news[t]? =some u→w.drew.cell? ⟨b,(i+1)*3+t,none⟩=some u:=by
  intro t u hu
  rw [hnews,List.getElem?_map,Au,List.getElem?_drop] at hu
  obtain⟨x,hx,rfl⟩:=Option.map_eq_some_iff.1 hu
  rw [Nat.mul_comm 3] at hx
  exact hD.drew.cell hx
 obtain⟨A,hA,hsrc⟩:∃A:Addr,(if cap=i+1 then some (⟨b,0,none⟩:Addr) else some ⟨b,(i+1)*3,none⟩)=some A∧Hid (∀t u,news[t]? =some u→w.drew.cell? (A.add t)=some u):=by
  by_cases h:cap=i+1
  ·refine⟨⟨b,0,none⟩,by simp [h],fun t u hu=>?_⟩
   have h0:news.length=0:=by rw [hlen];omega
   rw [List.length_eq_zero_iff.1 h0] at hu
   simp at hu
  ·refine⟨⟨b,(i+1)*3,none⟩,by simp [h],fun t u hu=>?_⟩
   rw [Addr.add_lit]
   exact hcell t u hu
 have s3:Hid (∀t,t < news.length→(w.drew.cell? ⟨b,0+i*3+t,none⟩).isSome=true∧w.drew.frozen? ⟨b,0+i*3+t,none⟩=false):=by
  intro t ht
  rw [hlen] at ht
  exact⟨hD.drew.there (by omega),hD.drew.frozen _⟩
 obtain⟨W1,hW1⟩:∃W1,W1=w.drew.setCells b (0+i*3) news:=⟨_,rfl⟩
 have hD1:DW 42 3 w W1 b cap (bB (l.take i++l.drop (i+1)++l.drop (l.length - 1))):=by
  have:=hD.drew.sets (vs:=bB (l.drop (i+1))) (j:=i*3) (by rw [bZ,List.length_drop];omega)
  rw [hW1,hnews,Nat.zero_add]
  rw [vP,vP,Ad,Au l (l.length - 1),Nat.mul_comm 3 i]
  rw [bZ,List.length_drop] at this
  rw [show 3*(l.length - 1)=i*3+3*(l.length - (i+1)) by omega]
  exact this
 have hlm:(l.take i++l.drop (i+1)++l.drop (l.length - 1)).length=l.length:=by
  simp;omega
 have hcl:=hD1.cleared (i:=l.length - 1) (n:=1) (by rw [hlm];omega)
 rw [show (l.take i++l.drop (i+1)++l.drop (l.length - 1)).take (l.length - 1)=l.eraseIdx i by
  rw [List.take_append_of_le_length (by simp;omega),List.take_of_length_le (by simp;omega),List.eraseIdx_eq_take_drop_succ]] at hcl
 have hcs:∀j,j < 1*3→(W1.cell? ⟨b,(l.length - 1)*3+j,none⟩).isSome=true:=fun j hj=>hD1.there (by rw [hlm];omega)
 have hcf:∀j,j < 1*3→W1.frozen? ⟨b,(l.length - 1)*3+j,none⟩=false:=fun j _=>hD1.frozen _
 have HC:=Lib.hid hcl
 have HS1:=Lib.hid hcs
 have HF1:=Lib.hid hcf
 have hW:Hid (W1=w.drew.setCells b (0+i*3) news):=hW1
 have mixed:Tryz.prog.follows Departure.mixedOrders=true:=by kernel_rfl
 have hb1:0≤(i:Int)+1∧(i:Int)+1≤(l.length:Int):=by omega
 have hic:i≤cap:=by omega
 have hjc:i+1≤cap:=by omega
 clear hD hD1 hcl hcs hcf hW1 hcell hnews hlen hlm
 go_enter Tryz.func53,Tryz.ntmps53
 go_wp2_with fail
 go_region_law_o (refine step_append_room rfl (.tmp 22) (.tmp 25) 38 rfl 42 i0 3 Tx hi0 hz1 b 0 i cap (by simp [Act.eval,Act.put]) A (l.length - (i+1)) (cap - (i+1)) news (by simp [Act.eval,Act.put]) s1.out hsrc.out s2.out (by omega) s3.out ?_;rw [← hW.out])
 rw [show i+(l.length - (i+1))=l.length - 1 by omega]
 have hb2:0≤((l.length - 1:Nat):Int)∧((l.length - 1:Nat):Int)≤(l.length:Int):=by omega
 have hb3:l.length - 1≤l.length:=by omega
 go_wp2_with fail
 rw [show l.length - (l.length - 1)=1 by omega,mQ (k:=3) W1 _ _ _ _ Tx NH rfl b ((l.length - 1)*3) 1 (cap - (l.length - 1)) (by omega) HS1.out HF1.out]
 go_wp2_with fail
 go_ret
 have hcl:=HC.out
 rw [List.map_replicate] at hcl
 exact⟨congrArg (fun n:Nat=>Ending.returned (.slice (some ⟨b,0,none⟩) n cap)) (by rw [List.length_eraseIdx_of_lt hi]),hcl⟩
theorem DW.YK {E sz:Nat} {w W:World} {b cap:Nat} {F:List Int} (h:DW E sz w W b cap F) (hb:b < W.heap.size):DW E sz W W b cap F:=⟨rfl,rfl,rfl,Nat.le_refl _,Nat.le_refl _,hb,fun _ _ _=>rfl,h.row⟩
theorem uo (l:List Lit) (i:Nat) (hi:i < l.length):Con 13 [.d (lits l),.d (i64 i)] (.own 42 ((l.eraseIdx i).map Lit.av)):=by
 refine⟨Tryz.call13,fun I J O mt w vs hI _ hO _ _ ha=>?_⟩
 have hwf:=nk.wfs ha
 simp only [ARs.wf,AR.wf,AV.wf,AV.wfs,List.length_map] at hwf
 match vs,ha with
 |[v0,v1],ha=>
  obtain⟨h0,h1,_⟩:=ha
  obtain rfl:v1= .int .i64 i:=h1
  have hCl:=(tO l).2 I (fun _=>False) (fun _=>False) false w [v0] hI (fun b h=>h.elim) (fun b h=>h.elim) nofun nofun ⟨h0,trivial⟩
  obtain⟨a0,c0,rfl,_⟩:=h0
  rw [List.length_map] at*
  have hW:∀W:World,Calls Tryz.prog 52 #[.int .i64 i,.int .i64 0,.int .i64 ((l.length:Int) - 1)] W fun e W'=>e= .returned (.bool true)∧Quiet W W':=fun W=>by
   have h:=aP i 0 ((l.length:Int) - 1)
   rw [show within (i:Int) 0 ((l.length:Int) - 1)=true from within_iff.2 (by omega)] at h
   exact Jc h (w:=W) (vs:=[.int .i64 i,.int .i64 0,.int .i64 ((l.length:Int) - 1)]) ⟨rfl,rfl,rfl,trivial⟩
  have HI:=Lib.hid hI
  have HO:=Lib.hid hO
  have HW:=Lib.hid hwf
  have hll:l.length≤274877906944:=hwf.1.1
  clear hI hO hwf
  go_enter Tryz.func13,Tryz.ntmps13
  go_wp2_with fail
  refine hCl.mono ?_
  rintro e w2 ⟨v,rfl,hT,I',bs,k1,k2,k3,k4,k5⟩
  obtain⟨_,_,_,_,xs,m1,m2⟩:=k5
  obtain rfl:=uZ m2
  rw [List.length_map] at m1
  have hb2:=hT.quiet
  rcases m1.2 with⟨rfl,hn⟩|⟨b,cap,cur,rfl,hbb,_⟩
  ·omega
  obtain⟨hD,hnc,hcm,hfl,_⟩:=CQ m1
  have HB2:=Lib.hid hb2
  have HD:=Lib.hid hD
  have HM:=Lib.hid hcm
  clear hCl m1 m2 hb2 hT k1 k2 k3 k4 hD hcm hfl
  go_wp2_with fail
  refine (hW w2).mono ?_
  rintro e w3 ⟨rfl,hb3⟩
  have hD2:DW 42 3 w2 w3 b cap (bB l):=HD.out.below hb3
  have hdel:=SE (hD2.YK hD2.ltW) hnc hi
  have HB3:=Lib.hid (HB2.out.trans hb3)
  have HL:=Lib.hid hD2.ltW
  clear hD2 hb3 hW
  go_wp2_with fail
  refine hdel.mono ?_
  rintro e w4 ⟨rfl,hD4⟩
  have HD4:=Lib.hid hD4
  clear hdel hD4
  go_wp2_with fail
  go_ret
  have hD':=HD4.out
  have hI:=HI.out
  have hO:=HO.out
  have hbw:Quiet w w4:=hD'.quiet HB3.out hbb
  have hsl:(l.eraseIdx i).length≤l.length:=by rw [List.length_eraseIdx_of_lt hi];omega
  refine⟨_,rfl,Turn.ofQ (fun k hk=>hO k hk.1) hbw,I,[b],fun k hk=>hk,fun k hk=>.inl hk,by simp,?_,rfl,by rw [List.length_map];exact Nat.le_trans hsl hll,rfl,tQ,(bB (l.eraseIdx i)).map (Value.int .i64),?_,vg _⟩
  ·intro k hk
   obtain rfl:=List.mem_singleton.1 hk
   exact⟨fun hi=>by have:=hI _ hi;omega,hbb,hD'.ltW⟩
  ·rw [List.length_map]
   exact hD'.owns (n:=(l.eraseIdx i).length) (base:=w.heap.size) (by rw [bZ];show _=_*3;omega) hbb (Nat.le_trans hsl hnc) HM.out
 |[],ha=>exact ha.elim
 |[_],ha=>exact ha.2.elim
 |_::_::_::_,ha=>exact ha.2.2.elim
theorem yT (l:List Lit) (i:Nat) (hi:i < l.length):Con 13 [.d (lits l),.d (i64 i)] (.fr ((l.eraseIdx i).map Lit.av)):=((uo l i hi).GI rfl).VK
set_option maxRecDepth 20000
set_option maxHeartbeats 0
open Go.Proofs
theorem SF {p:Proj}:fT p pJ=false:=by
 cases h:fT p pJ with
 |false=>rfl
 |true=>
  cases CK h with
  |link hk k l e1 hl=>exact absurd hk (by decide)
  |fin hk ha=>exact absurd hk (by decide)
  |time hk ha hb=>exact absurd hk (by decide)
  |work hk ha hb hc hlt=>exact absurd hk (by decide)
  |pair hk ha hb hc hlt=>exact absurd hk (by decide)
  |Ct hk ha=>exact absurd hk (by decide)
theorem Ot {p:Proj} {b:Dom} (he:aR b=false):explain p b pJ= []:=by
 unfold explain
 rw [if_neg]
 unfold refutes
 rw [he,SF]
 simp
theorem Ou {p:Proj} {b:Dom} {r:Rul} (h:eX p b=some r):refutes p b r=true:=by
 unfold eX at h
 split at h
 ·rename_i hd
  cases h
  unfold refutes;rw [hd.1,hd.2];rfl
 ·exact List.find?_some h
theorem QT {p:Proj} {r:Rul} {l:List Lit} (h:follows p r l=true):l.length≤24:=by
 simp only [follows,lu,Bool.and_eq_true,decide_eq_true_eq] at h
 have:=h.1.2
 omega
attribute [local irreducible] dX xS gU status explain follows fD ay eX shorten
theorem Xo (code:List Int):Con 3 [.d (u8s code)] (.d (.bool true)):=by
 refine con Tryz.func3 rfl rfl Tryz.call3 rfl fun hwf=>?_
 simp only [ARs.wf,AR.wf,AV.wf,AV.wfs,lm,lim] at hwf
 by_cases hbig:((code.map (AV.int .u8)).length:Int) > 1048576
 ·(repeat' ((conv=>whnf);first|with_reducible refine Br.yes (decide_eq_true hbig) ?_|refine gA ?_|(refine gB ?_ ?_<;>intro h)|(refine gI ?_;intro x hx)|(refine gJ ?_;intro j x hj hx)|refine gV ?_|intro _))<;>try (conv=>whnf)
  exact fv
 have hbig2:decide (((code.map (AV.int .u8)).length:Int) > 1048576)=false:=decide_eq_false hbig
 have hf:=vZ code
 have hok:=uT code
 have hs:=uj code
 have h3:(dX code).acts.length≤3:=by have:=(jP code).1.acts;omega
 have BS:=xV code
 have BB:=DF (dX code) hok hf code
 obtain⟨b1,b2,b3⟩:=QD hok code
 generalize dX code=p at hf hok hs h3 BS BB b1 b2 b3
 generalize xS p code=b at BB b1 b2 b3
 have BR:=fU p b hf
 cases hfr:eX p b with
 |none=>
  rw [hfr,NU] at BR
  dsimp only [Option.getD,Option.isSome] at BR
  have BE:=mU p b pJ hf
  rw [Ot b3] at BE
  have BD:=aQ p b hf
  rw [b1] at BD
  (repeat' ((conv=>whnf);first|with_reducible refine Br.no hbig2 ?_|refine gA ?_|(refine gB ?_ ?_<;>intro h)|(refine gI ?_;intro x hx)|(refine gJ ?_;intro j x hj hx)|refine gV ?_|refine gC (BS) ?_|refine gC (BB) ?_|refine gC (BR) ?_|refine gC (BE) ?_|refine gC (BD) ?_|intro _))<;>try (conv=>whnf)
  all_goals first
   |exact⟨rfl,rfl,trivial⟩
   |exact fv
 |some r=>
  rw [hfr,NU] at BR
  dsimp only [Option.getD,Option.isSome] at BR
  have hr:=Ou hfr
  have hfo:=Gn hs hr
  have BE:=mU p b r hf
  have hst:=KA (r:=r) b1 b3
  have hnd:∀i,i < (explain p b r).length→follows p r ((explain p b r).eraseIdx i)=false:=fun i hi=>Oc hi
  have hsh:=Kz (p:=p) (b:=b) (r:=r) (-1)
  have hlen:=QT hfo
  generalize explain p b r=w at hfo BE hst hnd hsh hlen
  have BU:=Cn b w
  rw [hst,XB] at BU
  dsimp only at BU
  have BF:=lU p r w hf
  rw [hfo] at BF
  have BA:=rU p hf hok h3 5 (by decide)
  have hS:∀s∈gU p 5,dN p s=true:=vK
  have hSl:=zK hok h3 (m:=5) (by decide)
  have hcl:∀s,dN p s=true→fD w s=true:=fun s hss=>Ky hfo hss
  generalize gU p 5=S at BA hS hSl
  have BH:=Ag p r w (-1) hf
  rw [hsh] at BH
  have BQ:=ED w
  (repeat' ((conv=>whnf);first|with_reducible refine Br.no hbig2 ?_|refine gA ?_|(refine gB ?_ ?_<;>intro h)|(refine gI ?_;intro x hx)|(refine gJ ?_;intro j x hj hx)|refine gV ?_|refine gC (BS) ?_|refine gC (BB) ?_|refine gC (BR) ?_|refine gC (BE) ?_|refine gC (BU) ?_|refine gC (BF) ?_|intro _))<;>try (conv=>whnf)
  refine aB [3,5,7,60] [3,5] [] ?_
  (conv=>whnf)
  refine aA.go ((Nat)) (fun i=>(i≤w.length)) (fun i=>[(61,.data (i64 i))]) (fun _=>[]) (fun _=>[]) (fun i=>w.length - i) (0) ?_ ?_
  ·exact Nat.zero_le _
  rintro i hi
  by_cases hil:i < w.length
  ·have BW:=yT w i hil
   have BG:=lU p r (w.eraseIdx i) hf
   rw [hnd i hil] at BG
   (repeat' ((conv=>whnf);first|(exfalso;omega)|refine gA ?_|(refine gB ?_ ?_<;>intro h)|(refine gI ?_;intro x hx)|(refine gJ ?_;intro j x hj hx)|refine gV ?_|refine gC (BW) ?_|refine gC (BG) ?_|intro _))<;>try (conv=>whnf)
   refine nx (i+1) ?_
   exact (by omega:i+1≤w.length)
  (repeat' ((conv=>whnf);first|(exfalso;omega)|refine gA ?_|(refine gB ?_ ?_<;>intro h)|(refine gI ?_;intro x hx)|(refine gJ ?_;intro j x hj hx)|refine gV ?_|refine gC (BA) ?_|intro _))<;>try (conv=>whnf)
  refine aB [3,5,7,72,73] [3,5] [] ?_
  (conv=>whnf)
  refine aA.go ((Nat)) (fun k=>(k≤S.length)) (fun k=>[(74,.data (i64 k))]) (fun _=>[]) (fun _=>[]) (fun k=>S.length - k) (0) ?_ ?_
  ·exact Nat.zero_le _
  rintro k hk
  by_cases hkl:k < S.length
  ·obtain⟨s,hsk⟩:∃x,S[k]? =some x:=⟨S[k]'hkl,by simp⟩
   have BL:=EA w s
   rw [hcl s (hS s (List.mem_of_getElem? hsk))] at BL
   (repeat' ((conv=>whnf);first|with_reducible refine Idx.got hsk rfl ?_|(exfalso;omega)|refine gA ?_|(refine gB ?_ ?_<;>intro h)|(refine gI ?_;intro x hx)|(refine gJ ?_;intro j x hj hx)|refine gV ?_|refine gC (BL) ?_|intro _))<;>try (conv=>whnf)
   refine nx (k+1) ?_
   exact (by omega:k+1≤S.length)
  (repeat' ((conv=>whnf);first|(exfalso;omega)|refine gA ?_|(refine gB ?_ ?_<;>intro h)|(refine gI ?_;intro x hx)|(refine gJ ?_;intro j x hj hx)|refine gV ?_|refine gC (BH) ?_|refine gC (BQ) ?_|intro _))<;>try (conv=>whnf)
  exact fv
end Go.Proofs.YtjfnojijdggfhaaGreat.Abs
