/- Contracts: the laws' cursors and draws. -/
import Derived.Test.YtmenphiahgkjkaaGreatDoorC1
import Derived.Test.YtmenphiahgkjkaaGreatDoorPlain
set_option linter.all false
set_option maxRecDepth 20000
set_option maxHeartbeats 0
namespace Go.Proofs.YtmenphiahgkjkaaGreatDoor.Abs
open Go.Proofs
theorem Arith.raw {k:IntKind} {r:Int} {K:Int→Prop} (h:K (k.wrap r)):Arith k r K:=⟨h⟩
theorem Uv (code:List Int):Con 13 [.d (u8s code)] (.ptr (zC code).avs):=by
 refine con Tryz.func13 rfl rfl Tryz.call13 rfl fun hwf=>?_
 simp only [ARs.wf,AR.wf,AV.wf,AV.wfs,lm,lim] at hwf
 have hz:(1950:Int)+((code.map (AV.int .u8)).length:Int)=1950+code.length:=by rw [List.length_map]
 (repeat' ((conv=>whnf);first|refine gA ?_|(refine gB ?_ ?_<;>intro h)|(refine gI ?_;intro x hx)|(refine gJ ?_;intro j x hj hx)|refine gV ?_|intro _))<;>try (conv=>whnf)
 refine aB [0] [] [] ?_
 (conv=>whnf)
 refine aA.go ((Nat)) (fun k=>(k≤code.length∧k≤4000)) (fun k=>[(4,.data (i64 k)),(3,.data (i64 ((code.take k).foldl wB (1950+(code.map (AV.int .u8)).length))))]) (fun _=>[]) (fun _=>[]) (fun k=>code.length - k) (0) ?_ ?_
 ·exact⟨Nat.zero_le _,Nat.zero_le _⟩
 rintro k hk
 by_cases hlt:k < code.length∧k < 4000
 ·obtain⟨x,hx⟩:∃x,code[k]? =some x:=⟨code[k]'hlt.1,by simp⟩
  have e1:(code.take (k+1)).foldl wB (1950+(code.map (AV.int .u8)).length)=wB ((code.take k).foldl wB (1950+(code.map (AV.int .u8)).length)) x:=by
   obtain⟨h1,rfl⟩:=List.getElem?_eq_some_iff.1 hx
   rw [List.take_succ_eq_append_getElem h1,List.foldl_append];rfl
  (repeat' ((conv=>whnf);first|with_reducible refine Idx.got hx rfl ?_|refine gA ?_|refine Arith.raw ?_|refine gA ?_|(refine gB ?_ ?_<;>intro h)|(refine gI ?_;intro x hx)|(refine gJ ?_;intro j x hj hx)|refine gV ?_|intro _))<;>try (conv=>whnf)
  all_goals first
   |(exfalso;omega)
   |skip
  refine nw (k+1) ?_ ?_
  ·(repeat' ((conv=>whnf)<;>(first|exact trivial|exact rfl|with_reducible refine And.intro ?_ ?_)))<;>((conv=>whnf)<;>(exact congrArg (AV.int .i64) e1.symm))
  exact⟨by omega,by omega⟩
 ·have e2:(code.take k).foldl wB (1950+(code.map (AV.int .u8)).length)=(zC code).h:=by
   show _=Vi code
   unfold Vi
   rw [hz]
   congr 1
   by_cases hl:code.length≤4000
   ·rw [List.take_of_length_le hl,List.take_of_length_le (by omega)]
   ·rw [show k=4000 by omega]
  (repeat' ((conv=>whnf);first|refine gA ?_|(refine gB ?_ ?_<;>intro h)|(refine gI ?_;intro x hx)|(refine gJ ?_;intro j x hj hx)|refine gV ?_|intro _))<;>try (conv=>whnf)
  all_goals first
   |(exfalso;omega)
   |(rw [e2];exact fv)
theorem Rq (c:Cur) (hc:c.ok):Con 44 [.bx c.cells] (RDr (.d (i64 (byteOf c).1)) (byteOf c).2):=by
 refine con Tryz.func44 rfl rfl Tryz.call44 rfl fun hwf=>?_
 obtain⟨b,i,h0⟩:=c
 unfold Cur.ok at hc
 dsimp only at hc
 simp only [Cur.cells,ARs.wf,AR.wf,AV.wf,AV.wfs,UF,List.length_map,lim] at hwf
 obtain⟨m,rfl⟩:∃m:Nat,i=m:=⟨i.toNat,by omega⟩
 by_cases hlt:m < b.length
 ·obtain⟨x,hx⟩:∃x,b[m]? =some x:=⟨b[m]'hlt,by simp⟩
  have e:byteOf ⟨b,m,h0⟩=(Vh (w64 (Qt (uG h0)+w64 x)) 255,⟨b,m+1,uG h0⟩):=by
   unfold byteOf
   rw [if_pos (by dsimp only;omega)]
   simp only [Int.toNat_natCast,List.getD_eq_getElem?_getD,hx,Option.getD_some]
  rw [e]
  dsimp only [Cur.cells]
  (repeat' ((conv=>whnf);first|with_reducible refine Idx.got hx rfl ?_|refine gA ?_|refine Arith.raw ?_|refine gA ?_|(refine gB ?_ ?_<;>intro h)|(refine gI ?_;intro x hx)|(refine gJ ?_;intro j x hj hx)|refine gV ?_|intro _))<;>try (conv=>whnf)
  all_goals first
   |(exfalso;omega)
   |exact fv
 ·have e:byteOf ⟨b,m,h0⟩=(Qt (uG h0),⟨b,m,uG h0⟩):=by
   unfold byteOf
   rw [if_neg (by dsimp only;omega)]
  rw [e]
  dsimp only [Cur.cells]
  (repeat' ((conv=>whnf);first|refine gA ?_|refine Arith.raw ?_|refine gA ?_|(refine gB ?_ ?_<;>intro h)|(refine gI ?_;intro x hx)|(refine gJ ?_;intro j x hj hx)|refine gV ?_|intro _))<;>try (conv=>whnf)
  all_goals first
   |(exfalso;omega)
   |exact fv
theorem Ct (c:Cur) (n:Int) (hc:c.ok) (hn:n≤256):Con 15 [.bx c.cells,.d (i64 n)] (RDr (.d (i64 (below c n).1)) (below c n).2):=by
 refine con Tryz.func15 rfl rfl Tryz.call15 rfl fun hwf=>?_
 by_cases h0:n≤0
 ·rw [show below c n=(0,c) by rw [below,if_pos h0]]
  (repeat' ((conv=>whnf);first|refine gA ?_|(refine gB ?_ ?_<;>intro h)|refine gV ?_|intro _))<;>try (conv=>whnf)
  all_goals first
   |(exfalso;omega)
   |exact fv
 ·have hB:=Rq c hc
  have hb:=KI c
  rw [show below c n=((byteOf c).1.tmod n,(byteOf c).2) by rw [below,if_neg h0]]
  generalize byteOf c=q at hB hb ⊢
  obtain⟨x,d⟩:=q
  (repeat' ((conv=>whnf);first|refine gA ?_|(refine gB ?_ ?_<;>intro h)|refine gV ?_|refine gC (hB) ?_|intro _))<;>try (conv=>whnf)
  all_goals first
   |(exfalso;omega)
   |exact fv
theorem fA {c d:Cur} {n x:Int} (e:below c n=(x,d)) (hc:c.ok) (hn:n≤256):Con 15 [.bx c.cells,.d (i64 n)] (RDr (.d (i64 x)) d):=by
 have h:=Ct c n hc hn
 rw [e] at h;exact h
theorem Rs (c:Cur) (n:Int) (hc:c.ok) (hn:n≤256):Con 41 [.bx c.cells,.d (i64 n)] (RDr (.d (.bool (decide ((below c n).1=0)))) (below c n).2):=by
 refine con Tryz.func41 rfl rfl Tryz.call41 rfl fun hwf=>?_
 have hB:=Ct c n hc hn
 generalize below c n=q at hB ⊢
 obtain⟨x,d⟩:=q
 (repeat' ((conv=>whnf);first|refine gA ?_|(refine gB ?_ ?_<;>intro h)|refine gC (hB) ?_|intro _))<;>try (conv=>whnf)
 exact fv
theorem AU {c d:Cur} {n x:Int} (e:below c n=(x,d)) (hc:c.ok) (hn:n≤256):Con 41 [.bx c.cells,.d (i64 n)] (RDr (.d (.bool (decide (x=0)))) d):=by
 have h:=Rs c n hc hn
 rw [e] at h;exact h
open Go.Proofs
attribute [local irreducible] below
theorem Idx.adf {l:List AV} {i:Int} {k:Nat} {x:AV} {K:Nat→AV→Prop} (hx:l[k]? =some x) (h:i=k) (hk:K k x):Idx l i K:=⟨k,x,h,hx,hk⟩
theorem Rt (c:Cur) (hc:c.ok):Con 40 [.bx c.cells] (RDr (.d (.sl ((mh c).1.map Step.av))) (mh c).2):=by
 refine con Tryz.func40 rfl rfl Tryz.call40 rfl fun hwf=>?_
 clear hwf
 obtain⟨x,d,e1,h1,x0,x1⟩:=aK hc 4
 obtain⟨y,e,e2,h2,y0,y1⟩:=aK h1 6
 have x1:=x1 (by decide)
 have y1:=y1 (by decide)
 have B1:=fA e1 hc (by decide)
 have B2:=fA e2 h1 (by decide)
 have hy:y.tdiv 2=y / 2:=Int.tdiv_eq_ediv_of_nonneg y0
 have hinv:=fun j=>mg (f:=dZ) Ev (fun k l c hc h=>BD hc h) j [⟨0,1+x⟩] e h2 ⟨rfl,fun i hi=>by
  obtain rfl:i=0:=by simp at hi;omega
  exact⟨_,rfl,Int.le_refl 0,Int.le_refl 0,by show (0:Int)≤1+x;omega,by show 1+x≤(5:Int);omega,fun _=>rfl,fun h=>(h rfl).elim⟩⟩
 generalize hR:mh c=R
 have hD:itN dZ (y / 2).toNat [⟨0,1+x⟩] e=R:=by
  rw [← hR];unfold mh;rw [e1];dsimp only;rw [e2]
 clear hR e1 e2
 (repeat' ((conv=>whnf);first|refine gA ?_|(refine gB ?_ ?_<;>intro h)|(refine gI ?_;intro x hx)|(refine gJ ?_;intro j x hj hx)|refine gP ?_|refine gV ?_|refine gC (B1) ?_|refine gC (B2) ?_|intro _))<;>try (conv=>whnf)
 refine aB [0] [] [9] ?_
 (conv=>whnf)
 refine aA.mk ((Nat)) (fun j=>((j:Int)≤y / 2)) (fun j=>[(4,.data (i64 (y.tdiv 2 - j))),(3,.own 9 0)]) (fun j=>[(1000000,[.data (u8s (itN dZ j [⟨0,1+x⟩] e).2.b),.data (i64 (itN dZ j [⟨0,1+x⟩] e).2.i),.data (i64 (itN dZ j [⟨0,1+x⟩] e).2.h)])]) (fun j=>[(9,117,(itN dZ j [⟨0,1+x⟩] e).1.map Step.av,0)]) (fun j=>(y / 2).toNat - j) (0) ?_ ?_ ?_
 rotate_left
 ·(repeat' ((conv=>whnf)<;>(first|exact trivial|exact rfl|with_reducible refine And.intro ?_ ?_)))<;>((conv=>whnf)<;>(exact congrArg (AV.int .i64) (by omega)))
 rotate_left
 ·omega
 rintro j hj
 obtain⟨g1,g2⟩:=hinv j
 by_cases hlt:(j:Int) < y / 2
 ·have e3:itN dZ (j+1) [⟨0,1+x⟩] e=dZ (itN dZ j [⟨0,1+x⟩] e).1 (itN dZ j [⟨0,1+x⟩] e).2:=rfl
  generalize hq:itN dZ j [⟨0,1+x⟩] e=q at g1 g2 e3 ⊢
  obtain⟨l,cu⟩:=q
  dsimp only at g1 g2 e3 ⊢
  obtain⟨u,cv,f1,k1,u0,u1⟩:=aK g2 9
  obtain⟨v,cw,f2,k2,v0,v1⟩:=aK k1 5
  have u1:=u1 (by decide)
  have v1:=v1 (by decide)
  have B3:=fA f1 g2 (by decide)
  have B4:=fA f2 k1 (by decide)
  have hl:=g1.len
  obtain⟨z,m1,mm⟩:=g1.ok (l.length - 1) (by omega)
  have m2:=mm.1
  have m3:=mm.2.1
  clear mm
  have hz:(l.map Step.av)[l.length - 1]? =some z.av:=by rw [List.getElem?_map,m1];rfl
  have hi1:((l.map Step.av).length:Int) - 1=((l.length - 1:Nat):Int):=by rw [List.length_map];omega
  have e4:dZ l cu=(l++[⟨z.at'+1+u,v⟩],cw):=by
   unfold dZ
   rw [f1];dsimp only;rw [f2]
   rw [List.getD_eq_getElem?_getD,m1];rfl
  rw [e4] at e3
  (repeat' ((conv=>whnf);first|refine Idx.adf hz hi1 ?_|with_reducible refine Idx.got m1 rfl ?_|refine gA ?_|(refine gB ?_ ?_<;>intro h)|(refine gI ?_;intro x hx)|(refine gJ ?_;intro j x hj hx)|refine gP ?_|refine gV ?_|refine gC (B3) ?_|refine gC (B4) ?_|intro _))<;>try (conv=>whnf)
  all_goals first
   |(exfalso;omega)
   |skip
  refine nw (j+1) ?_ ?_
  ·(repeat' ((conv=>whnf)<;>(first|exact trivial|exact rfl|with_reducible refine And.intro ?_ ?_)))<;>((conv=>whnf)<;>(first|exact congrArg (AV.int .i64) (by omega)|(simp only [e3];done)|(simp only [e3,List.map_append,List.map_cons,List.map_nil];done)|(rw [e3];done)))
  omega
 ·have ej:j=(y / 2).toNat:=by omega
  subst ej
  rw [hD]
  (repeat' ((conv=>whnf);first|refine gA ?_|(refine gB ?_ ?_<;>intro h)|(refine gI ?_;intro x hx)|(refine gJ ?_;intro j x hj hx)|refine gP ?_|refine gV ?_|intro _))<;>try (conv=>whnf)
  all_goals first
   |(exfalso;omega)
   |exact fv
theorem Nv (c:Cur) (hc:c.ok):Con 42 [.bx c.cells] (RDr (.d (.sl ((fI 4 c).1.map ints))) (fI 4 c).2):=by
 refine con Tryz.func42 rfl rfl Tryz.call42 rfl fun hwf=>?_
 clear hwf
 generalize hR:fI 4 c=R
 (repeat' ((conv=>whnf);first|refine gA ?_|(refine gB ?_ ?_<;>intro h)|refine gP ?_|refine gV ?_|intro _))<;>try (conv=>whnf)
 refine aB [0] [] [8] ?_
 (conv=>whnf)
 refine aA.go ((Nat)) (fun i=>(i≤4)) (fun i=>[(4,.data (i64 i)),(3,.own 8 0)]) (fun i=>[(1000000,[.data (u8s (fI i c).2.b),.data (i64 (fI i c).2.i),.data (i64 (fI i c).2.h)])]) (fun i=>[(8,26,(fI i c).1.map ints,0)]) (fun i=>4 - i) (0) ?_ ?_
 ·exact Nat.zero_le _
 rintro i hi
 by_cases hlt:i < 4
 ·obtain⟨g1,_,g3⟩:=CX hc i
  have e3:fI (i+1) c=((fI i c).1++[(kY i 4 (fI i c).2).1],(kY i 4 (fI i c).2).2):=rfl
  generalize hq:fI i c=q at g1 g3 e3 ⊢
  obtain⟨rows,cu⟩:=q
  dsimp only at g1 g3 e3 ⊢
  (repeat' ((conv=>whnf);first|refine gA ?_|(refine gB ?_ ?_<;>intro h)|refine gP ?_|refine gV ?_|intro _))<;>try (conv=>whnf)
  refine aB [0,3,4] [] [13] ?_
  (conv=>whnf)
  refine aA.go ((Nat)) (fun k=>(k≤4)) (fun k=>[(6,.data (i64 k)),(5,.own 13 0)]) (fun k=>[(1000000,[.data (u8s (kY i k cu).2.b),.data (i64 (kY i k cu).2.i),.data (i64 (kY i k cu).2.h)])]) (fun k=>[(13,3,(kY i k cu).1.map i64,0)]) (fun k=>4 - k) (0) ?_ ?_
  ·exact Nat.zero_le _
  rintro k hk
  obtain⟨k1,_,k3⟩:=KJ i g3 k
  by_cases hlk:k < 4
  ·have e4:kY i (k+1) cu=((kY i k cu).1++[(ji i k (kY i k cu).2).1],(ji i k (kY i k cu).2).2):=rfl
   generalize hq2:kY i k cu=q2 at k1 k3 e4 ⊢
   obtain⟨row,cv⟩:=q2
   dsimp only at k1 k3 e4 ⊢
   by_cases hik:i=k
   ·rw [show ji i k cv=(0,cv) by rw [ji,if_pos hik]] at e4
    (repeat' ((conv=>whnf);first|with_reducible refine Br.no (by rw [decide_eq_true (show (i:Int)=k by omega)];rfl) ?_|refine gA ?_|(refine gB ?_ ?_<;>intro h)|refine gP ?_|refine gV ?_|intro _))<;>try (conv=>whnf)
    all_goals first
     |(exfalso;omega)
     |skip
    refine nw (k+1) ?_ ?_
    ·(repeat' ((conv=>whnf)<;>(first|exact trivial|exact rfl|with_reducible refine And.intro ?_ ?_)))<;>((conv=>whnf)<;>(first|(simp only [e4];done)|(simp only [e4,List.map_append,List.map_cons,List.map_nil];done)))
    omega
   ·obtain⟨u,cw,f1,m1,u0,u1⟩:=aK k3 3
    rw [show ji i k cv=(u,cw) by rw [ji,if_neg hik,f1]] at e4
    have B1:=fA f1 k3 (by decide)
    (repeat' ((conv=>whnf);first|with_reducible refine Br.yes (by rw [decide_eq_false (show ¬(i:Int)=k by omega)];rfl) ?_|refine gA ?_|(refine gB ?_ ?_<;>intro h)|refine gP ?_|refine gV ?_|refine gC (B1) ?_|intro _))<;>try (conv=>whnf)
    all_goals first
     |(exfalso;omega)
     |skip
    refine nw (k+1) ?_ ?_
    ·(repeat' ((conv=>whnf)<;>(first|exact trivial|exact rfl|with_reducible refine And.intro ?_ ?_)))<;>((conv=>whnf)<;>(first|(simp only [e4];done)|(simp only [e4,List.map_append,List.map_cons,List.map_nil];done)))
    omega
  ·obtain rfl:k=4:=by omega
   generalize hq2:kY i 4 cu=q2 at e3 ⊢
   obtain⟨row,cv⟩:=q2
   dsimp only at e3 ⊢
   (repeat' ((conv=>whnf);first|(exfalso;omega)|refine gA ?_|(refine gB ?_ ?_<;>intro h)|refine gP ?_|refine gV ?_|intro _))<;>try (conv=>whnf)
   all_goals first
    |(exfalso;omega)
    |skip
   refine nw (i+1) ?_ ?_
   ·(repeat' ((conv=>whnf)<;>(first|exact trivial|exact rfl|with_reducible refine And.intro ?_ ?_)))<;>((conv=>whnf)<;>(first|(simp only [e3];done)|(simp only [e3,List.map_append,List.map_cons,List.map_nil];done)))
   omega
  exact trivial
 ·obtain rfl:i=4:=by omega
  rw [hR]
  (repeat' ((conv=>whnf);first|refine gA ?_|(refine gB ?_ ?_<;>intro h)|refine gP ?_|refine gV ?_|intro _))<;>try (conv=>whnf)
  all_goals first
   |(exfalso;omega)
   |exact fv
theorem Ru (c:Cur) (i:Nat):Con 86 [.bx c.cells,.d (i64 i)] (RDr (.d (.str (nameOf i))) c):=by
 refine con Tryz.func86 rfl rfl Tryz.call86 rfl fun hwf=>?_
 have hx:(Vj.map AV.str)[i % 6]? =some (.str (nameOf i)):=by
  have:i % 6 < Vj.length:=Nat.mod_lt _ (by decide)
  unfold nameOf
  rw [List.getElem?_map,List.getD_eq_getElem?_getD,List.getElem?_eq_getElem this];rfl
 have hi:(i:Int).tmod 6=((i % 6:Nat):Int):=by rw [Int.tmod_eq_emod_of_nonneg (by omega)];omega
 (repeat' ((conv=>whnf);first|refine Idx.adf hx hi ?_|with_reducible refine Idx.got hx rfl ?_|refine gA ?_|(refine gB ?_ ?_<;>intro h)|(refine gI ?_;intro x hx)|(refine gJ ?_;intro j x hj hx)|refine gV ?_|intro _))<;>try (conv=>whnf)
 exact fv
end Go.Proofs.YtmenphiahgkjkaaGreatDoor.Abs
namespace Go.Proofs.YtmenphiahgkjkaaGreatDoor.Abs
open Go.Proofs
attribute [local irreducible] below
def JA (q:List Int×Cur):List Int×Cur:=(q.1++[(below q.2 3).1],(below q.2 3).2)
theorem FV (c:Cur) (hc:c.ok) (i r s:Nat) (hr:r≤100) (hs:s≤100):Con 43 [.bx c.cells,.d (i64 i),.d (i64 r),.d (i64 s)] (RDr (.d (mD i r s c).1.av) (mD i r s c).2):=by
 refine con Tryz.func43 rfl rfl Tryz.call43 rfl fun hwf=>?_
 clear hwf
 obtain⟨f,c1,e1,h1,f0,f1⟩:=aK hc 2
 obtain⟨k,c2,e2,h2,k0,k1⟩:=aK h1 4
 have k1:=k1 (by decide)
 have B1:=fA e1 hc (by decide)
 have B2:=fA e2 h1 (by decide)
 have BN:=Ru c i
 have hk:k.tdiv 2=k / 2:=Int.tdiv_eq_ediv_of_nonneg k0
 have hinv:=fun j=>mg (f:=eu r s) (fun j l=>l.length=j) (fun k l c hc h=>⟨by simp [eu,h],(Ia r s hc).2⟩) j [] c2 h2 rfl
 have hR:mD i r s c=(⟨nameOf i,f,(itN (eu r s) (1+k / 2).toNat [] c2).1⟩,(itN (eu r s) (1+k / 2).toNat [] c2).2):=by
  unfold mD;rw [e1];dsimp only;rw [e2]
 rw [hR]
 clear hR e1 e2
 (repeat' ((conv=>whnf);first|refine gA ?_|(refine gB ?_ ?_<;>intro h)|refine gP ?_|refine gV ?_|refine gC (BN) ?_|refine gC (B1) ?_|refine gC (B2) ?_|intro _))<;>try (conv=>whnf)
 refine aB [0,2,3,8,9] [8] [58] ?_
 (conv=>whnf)
 refine aA.mk ((Nat)) (fun j=>((j:Int)≤1+k / 2)) (fun j=>[(10,.data (i64 (1+k.tdiv 2 - j)))]) (fun j=>[(9,[.data (.str (nameOf i)),.data (i64 f),.own 58 0]),(1000000,[.data (u8s (itN (eu r s) j [] c2).2.b),.data (i64 (itN (eu r s) j [] c2).2.i),.data (i64 (itN (eu r s) j [] c2).2.h)])]) (fun j=>[(58,114,(itN (eu r s) j [] c2).1.map Mode.av,0)]) (fun j=>(1+k / 2).toNat - j) (0) ?_ ?_ ?_
 rotate_left
 ·(repeat' ((conv=>whnf)<;>(first|exact trivial|exact rfl|with_reducible refine And.intro ?_ ?_)))<;>((conv=>whnf)<;>(exact congrArg (AV.int .i64) (by omega)))
 rotate_left
 ·omega
 rintro j hj
 obtain⟨g1,g2⟩:=hinv j
 by_cases hlt:(j:Int) < 1+k / 2
 ·have e3:itN (eu r s) (j+1) [] c2=eu r s (itN (eu r s) j [] c2).1 (itN (eu r s) j [] c2).2:=rfl
  generalize hq:itN (eu r s) j [] c2=q at g1 g2 e3 ⊢
  obtain⟨l,cu⟩:=q
  dsimp only at g1 g2 e3 ⊢
  obtain⟨x,cx,f3,h3,x0,x1⟩:=aK g2 4
  have x1:=x1 (by decide)
  have B3:=fA f3 g2 (by decide)
  have hA:=fun n=>Jw n h3
  have hC:=fun n=>Jw n (hA r).2.2
  have e4:eu r s l cu=(l++[⟨1+x,(itN bP r [] cx).1,(itN bP s [] (itN bP r [] cx).2).1⟩],(itN bP s [] (itN bP r [] cx).2).2):=by
   unfold eu drawMode;rw [f3]
  rw [e4] at e3
  clear e4 f3
  (repeat' ((conv=>whnf);first|refine gA ?_|(refine gB ?_ ?_<;>intro h)|refine gP ?_|refine gV ?_|refine gC (B3) ?_|intro _))<;>try (conv=>whnf)
  refine aB [0,2,3,8,9,10,11] [8,9] [40] ?_
  (conv=>whnf)
  refine aA.go ((Nat)) (fun u=>(u≤r)) (fun _=>[]) (fun u=>[(11,[.data (i64 (1+x)),.own 40 0,.ah]),(1000000,[.data (u8s (itN bP u [] cx).2.b),.data (i64 (itN bP u [] cx).2.i),.data (i64 (itN bP u [] cx).2.h)])]) (fun u=>[(40,3,(itN bP u [] cx).1.map i64,0)]) (fun u=>r - u) (0) ?_ ?_
  ·exact Nat.zero_le _
  rintro u hu
  obtain⟨_,m1,m2⟩:=hA u
  by_cases hlu:u < r
  ·have e5:itN bP (u+1) [] cx=JA (itN bP u [] cx):=rfl
   generalize hq2:itN bP u [] cx=q2 at m1 m2 e5 ⊢
   obtain⟨row,cv⟩:=q2
   dsimp only at m1 m2 e5 ⊢
   obtain⟨y,cw,f4,h4,y0,y1⟩:=aK m2 3
   have B4:=fA f4 m2 (by decide)
   unfold JA at e5
   dsimp only at e5
   rw [f4] at e5
   have hml:(row.map i64).length=u:=by rw [List.length_map,m1]
   (repeat' ((conv=>whnf);first|with_reducible refine Br.yes (decide_eq_true (by rw [hml];omega)) ?_|refine gA ?_|(refine gB ?_ ?_<;>intro h)|refine gP ?_|refine gV ?_|refine gC (B4) ?_|intro _))<;>try (conv=>whnf)
   all_goals first
    |(exfalso;omega)
    |skip
   refine nw (u+1) ?_ ?_
   ·(repeat' ((conv=>whnf)<;>(first|exact trivial|exact rfl|with_reducible refine And.intro ?_ ?_)))<;>((conv=>whnf)<;>(first|(simp only [e5];done)|(simp only [e5,List.map_append,List.map_cons,List.map_nil];done)))
   omega
  ·obtain rfl:u=r:=by omega
   generalize hq2:itN bP u [] cx=q2 at m1 m2 e3 hC ⊢
   obtain⟨row,cv⟩:=q2
   dsimp only at m1 m2 e3 hC ⊢
   have hml:(row.map i64).length=u:=by rw [List.length_map,m1]
   (repeat' ((conv=>whnf);first|with_reducible refine Br.no (decide_eq_false (by rw [hml];omega)) ?_|refine gA ?_|(refine gB ?_ ?_<;>intro h)|refine gP ?_|refine gV ?_|intro _))<;>try (conv=>whnf)
   refine aB [0,2,3,8,9,10,11] [8,9] [40,52] ?_
   (conv=>whnf)
   refine aA.go ((Nat)) (fun w=>(w≤s)) (fun _=>[]) (fun w=>[(11,[.data (i64 (1+x)),.own 40 0,.own 52 0]),(1000000,[.data (u8s (itN bP w [] cv).2.b),.data (i64 (itN bP w [] cv).2.i),.data (i64 (itN bP w [] cv).2.h)])]) (fun w=>[(40,3,row.map i64,0),(52,3,(itN bP w [] cv).1.map i64,0)]) (fun w=>s - w) (0) ?_ ?_
   ·exact Nat.zero_le _
   rintro w hw
   obtain⟨_,n1,n2⟩:=hC w
   by_cases hlw:w < s
   ·have e5:itN bP (w+1) [] cv=JA (itN bP w [] cv):=rfl
    generalize hq3:itN bP w [] cv=q3 at n1 n2 e5 ⊢
    obtain⟨abR,cz⟩:=q3
    dsimp only at n1 n2 e5 ⊢
    obtain⟨y,cw,f4,h4,y0,y1⟩:=aK n2 3
    have B4:=fA f4 n2 (by decide)
    unfold JA at e5
    dsimp only at e5
    rw [f4] at e5
    have abS:(abR.map i64).length=w:=by rw [List.length_map,n1]
    (repeat' ((conv=>whnf);first|with_reducible refine Br.yes (decide_eq_true (by rw [abS];omega)) ?_|refine gA ?_|(refine gB ?_ ?_<;>intro h)|refine gP ?_|refine gV ?_|refine gC (B4) ?_|intro _))<;>try (conv=>whnf)
    all_goals first
     |(exfalso;omega)
     |skip
    refine nw (w+1) ?_ ?_
    ·(repeat' ((conv=>whnf)<;>(first|exact trivial|exact rfl|with_reducible refine And.intro ?_ ?_)))<;>((conv=>whnf)<;>(first|(simp only [e5];done)|(simp only [e5,List.map_append,List.map_cons,List.map_nil];done)))
    omega
   ·obtain rfl:w=s:=by omega
    generalize hq3:itN bP w [] cv=q3 at n1 n2 e3 ⊢
    obtain⟨abR,cz⟩:=q3
    dsimp only at n1 n2 e3 ⊢
    have abS:(abR.map i64).length=w:=by rw [List.length_map,n1]
    (repeat' ((conv=>whnf);first|with_reducible refine Br.no (decide_eq_false (by rw [abS];omega)) ?_|refine gA ?_|(refine gB ?_ ?_<;>intro h)|refine gP ?_|refine gV ?_|intro _))<;>try (conv=>whnf)
    all_goals first
     |(exfalso;omega)
     |skip
    refine nw (j+1) ?_ ?_
    ·(repeat' ((conv=>whnf)<;>(first|exact trivial|exact rfl|with_reducible refine And.intro ?_ ?_)))<;>((conv=>whnf)<;>(first|exact congrArg (AV.int .i64) (by omega)|(simp only [e3];done)|(simp only [e3,List.map_append,List.map_cons,List.map_nil];done)))
    omega
  exact trivial
 ·have ej:j=(1+k / 2).toNat:=by omega
  subst ej
  (repeat' ((conv=>whnf);first|refine gA ?_|(refine gB ?_ ?_<;>intro h)|refine gP ?_|refine gV ?_|intro _))<;>try (conv=>whnf)
  all_goals first
   |(exfalso;omega)
   |exact fv
end Go.Proofs.YtmenphiahgkjkaaGreatDoor.Abs
namespace Go.Proofs.YtmenphiahgkjkaaGreatDoor.Abs
open Go.Proofs
attribute [local irreducible] below
def JB (r s:Nat) (q:List aC×Cur):List aC×Cur:=(q.1++[(mD q.1.length r s q.2).1],(mD q.1.length r s q.2).2)
def FW (n:Nat) (q:List Link×Cur):List Link×Cur:=(q.1++[(dF n q.2).1],(dF n q.2).2)
def WZ (q:List dR×Cur):List dR×Cur:=(q.1++[(uH q.2).1],(uH q.2).2)
theorem FX (n:Nat) {c:Cur} (h:c.ok):(dF n c).2.ok:=by
 unfold dF
 dsimp only
 split
 ·exact fq (fq (fq (fq (fq (fq h _) _) _) _) _) _
 ·exact fq (fq (fq (fq (fq h _) _) _) _) _
theorem Rv (c:Cur) (hc:c.ok) (most:Int) (hm:1≤most∧most≤6):Con 14 [.bx c.cells,.d (i64 most)] (RDr (.d (kJ most c).1.av) (kJ most c).2):=by
 refine con Tryz.func14 rfl rfl Tryz.call14 rfl fun hwf=>?_
 clear hwf
 obtain⟨d,c1,e1,h1,d0,d1⟩:=aK hc 12
 obtain⟨kr,c2,e2,h2,kr0,kr1⟩:=aK h1 4
 have d1:=d1 (by decide)
 have kr1:=kr1 (by decide)
 have B1:=fA e1 hc (by decide)
 have B2:=fA e2 h1 (by decide)
 have hkr:kr.tdiv 2=kr / 2:=Int.tdiv_eq_ediv_of_nonneg kr0
 have hRi:=fun j=>mg (f:=iV) (fun j l=>l.length=j) (fun k l c hc h=>⟨by simp [iV,h],(KM hc).2⟩) j [] c2 h2 rfl
 obtain⟨R,hR⟩:∃R,R=kJ most c:=⟨_,rfl⟩
 rw [← hR]
 unfold kJ at hR
 rw [e1] at hR
 dsimp only at hR
 rw [e2] at hR
 dsimp only at hR
 (repeat' ((conv=>whnf);first|refine gA ?_|(refine gB ?_ ?_<;>intro h)|refine gP ?_|refine gV ?_|refine gC (B1) ?_|refine gC (B2) ?_|intro _))<;>try (conv=>whnf)
 refine aB [0,1,4,5] [4] [37] ?_
 (conv=>whnf)
 refine aA.mk ((Nat)) (fun j=>((j:Int)≤1+kr / 2)) (fun j=>[(6,.data (i64 (1+kr.tdiv 2 - j)))]) (fun j=>[(5,[.data (i64 (12+d)),.ah,.ah,.own 37 0,.ah]),(1000000,[.data (u8s (itN iV j [] c2).2.b),.data (i64 (itN iV j [] c2).2.i),.data (i64 (itN iV j [] c2).2.h)])]) (fun j=>[(37,96,(itN iV j [] c2).1.map dR.av,0)]) (fun j=>(1+kr / 2).toNat - j) (0) ?_ ?_ ?_
 rotate_left
 ·(repeat' ((conv=>whnf)<;>(first|exact trivial|exact rfl|with_reducible refine And.intro ?_ ?_)))<;>((conv=>whnf)<;>(exact congrArg (AV.int .i64) (by omega)))
 rotate_left
 ·omega
 rintro j hj
 obtain⟨g1,g2⟩:=hRi j
 by_cases hlt:(j:Int) < 1+kr / 2
 ·have e3:itN iV (j+1) [] c2=WZ (itN iV j [] c2):=rfl
  generalize hq:itN iV j [] c2=q at g1 g2 e3 ⊢
  obtain⟨l,cu⟩:=q
  dsimp only at g1 g2 e3 ⊢
  have BS:=Rt cu g2
  have hso:=(Ew g2).2
  unfold WZ uH at e3
  dsimp only at e3
  generalize mh cu=sq at BS hso e3
  obtain⟨sl,cs⟩:=sq
  dsimp only at BS hso e3
  obtain⟨o,co,f1,m1,o0,o1⟩:=aK hso 3
  have BO:=AU f1 hso (by decide)
  rw [f1] at e3
  dsimp only at e3
  by_cases ho:o=0
  ·rw [if_pos ho] at e3
   have BU:=Nv co m1
   generalize fI 4 co=uq at BU e3
   obtain⟨su,cz⟩:=uq
   dsimp only at BU e3
   (repeat' ((conv=>whnf);first|with_reducible refine Br.yes (decide_eq_true ho) ?_|refine gA ?_|(refine gB ?_ ?_<;>intro h)|refine gP ?_|refine gV ?_|refine gC (BS) ?_|refine gC (BO) ?_|refine gC (BU) ?_|intro _))<;>try (conv=>whnf)
   all_goals first
    |(exfalso;omega)
    |skip
   refine nw (j+1) ?_ ?_
   ·(repeat' ((conv=>whnf)<;>(first|exact trivial|exact rfl|with_reducible refine And.intro ?_ ?_)))<;>((conv=>whnf)<;>(first|exact congrArg (AV.int .i64) (by omega)|(simp only [e3];done)|(simp only [e3,List.map_append,List.map_cons,List.map_nil];done)|(simp only [e3,List.map_append,List.map_cons,List.map_nil];rfl)))
   omega
  ·rw [if_neg ho] at e3
   (repeat' ((conv=>whnf);first|with_reducible refine Br.no (decide_eq_false ho) ?_|refine gA ?_|(refine gB ?_ ?_<;>intro h)|refine gP ?_|refine gV ?_|refine gC (BS) ?_|refine gC (BO) ?_|intro _))<;>try (conv=>whnf)
   all_goals first
    |(exfalso;omega)
    |skip
   refine nw (j+1) ?_ ?_
   ·(repeat' ((conv=>whnf)<;>(first|exact trivial|exact rfl|with_reducible refine And.intro ?_ ?_)))<;>((conv=>whnf)<;>(first|exact congrArg (AV.int .i64) (by omega)|(simp only [e3];done)|(simp only [e3,List.map_append,List.map_cons,List.map_nil];done)|(simp only [e3,List.map_append,List.map_cons,List.map_nil];rfl)))
   omega
 ·have ej:j=(1+kr / 2).toNat:=by omega
  subst ej
  generalize hq:itN iV (1+kr / 2).toNat [] c2=q at g1 g2 hR ⊢
  obtain⟨rs,c3⟩:=q
  dsimp only at g1 g2 hR ⊢
  obtain⟨s1,s2,s3⟩:=BG g2
  generalize hst:kZ c3=sq at s1 s2 s3 hR
  obtain⟨st,c4⟩:=sq
  dsimp only at s1 s2 s3 hR
  obtain⟨ka,c5,e5,h5,ka0,ka1⟩:=aK s3 most
  have ka1:=ka1 (by omega)
  have B5:=fA e5 s3 (by omega)
  rw [e5] at hR
  dsimp only at hR
  have hAi:=fun j=>mg (f:=dN rs.length st.length) (fun j l=>l.length=j) (fun k l c hc h=>⟨by simp [dN,h],(KL l.length rs.length st.length hc).2.2.2⟩) j [] c5 h5 rfl
  have hgl:rs.length≤3:=by omega
  clear hRi g1 hq e1 e2
  obtain⟨o,co,f1,m1,o0,o1⟩:=aK g2 3
  have BO:=AU f1 g2 (by decide)
  unfold kZ at hst
  rw [f1] at hst
  dsimp only at hst
  by_cases ho:o=0
  ·rw [if_pos ho] at hst
   obtain⟨sv,cs,f2,m2,sv0,sv1⟩:=aK m1 6
   have BV:=fA f2 m1 (by decide)
   rw [f2] at hst
   dsimp only at hst
   have abT:st= [sv]:=(congrArg Prod.fst hst).symm
   have abU:c4=cs:=(congrArg Prod.snd hst).symm
   subst abU
   (repeat' ((conv=>whnf);first|with_reducible refine Br.no (decide_eq_false (by omega)) ?_|with_reducible refine Br.yes (decide_eq_true ho) ?_|refine gA ?_|(refine gB ?_ ?_<;>intro h)|refine gP ?_|refine gV ?_|refine gC (B5) ?_|refine gC (BO) ?_|refine gC (BV) ?_|intro _))<;>try (conv=>whnf)
   refine aB [0,4,5] [4] [67,37,43] ?_
   (conv=>whnf)
   refine aA.mk ((Nat)) (fun j=>((j:Int)≤1+ka)) (fun j=>[(8,.data (i64 (1+ka - j)))]) (fun j=>[(5,[.data (i64 (12+d)),.own 67 0,.ah,.own 37 0,.own 43 0]),(1000000,[.data (u8s (itN (dN rs.length st.length) j [] c5).2.b),.data (i64 (itN (dN rs.length st.length) j [] c5).2.i),.data (i64 (itN (dN rs.length st.length) j [] c5).2.h)])]) (fun j=>[(67,101,(itN (dN rs.length st.length) j [] c5).1.map aC.av,0),(37,96,rs.map dR.av,0),(43,3,st.map i64,0)]) (fun j=>(1+ka).toNat - j) (0) ?_ ?_ ?_
   rotate_left
   ·(repeat' ((conv=>whnf)<;>(first|exact trivial|exact rfl|with_reducible refine And.intro ?_ ?_)))<;>((conv=>whnf)<;>(first|exact congrArg (AV.int .i64) (by omega)|exact (by rw [abT];rfl)))
   rotate_left
   ·omega
   rintro j hj
   obtain⟨g1,g2⟩:=hAi j
   by_cases hlt:(j:Int) < 1+ka
   ·have e3:itN (dN rs.length st.length) (j+1) [] c5=JB rs.length st.length (itN (dN rs.length st.length) j [] c5):=rfl
    generalize hq:itN (dN rs.length st.length) j [] c5=q at g1 g2 e3 ⊢
    obtain⟨l,cu⟩:=q
    dsimp only at g1 g2 e3 ⊢
    have BA:=FV cu g2 l.length rs.length st.length (by omega) (by omega)
    unfold JB at e3
    dsimp only at e3
    have hm1:((l.map aC.av).length:Int)=l.length:=by rw [List.length_map]
    have hm2:((rs.map dR.av).length:Int)=rs.length:=by rw [List.length_map]
    have hm3:((st.map i64).length:Int)=st.length:=by rw [List.length_map]
    rw [← hm1, ← hm2, ← hm3] at BA
    (repeat' ((conv=>whnf);first|refine gA ?_|(refine gB ?_ ?_<;>intro h)|refine gP ?_|refine gV ?_|refine gC (BA) ?_|intro _))<;>try (conv=>whnf)
    all_goals first
     |(exfalso;omega)
     |skip
    refine nw (j+1) ?_ ?_
    ·(repeat' ((conv=>whnf)<;>(first|exact trivial|exact rfl|with_reducible refine And.intro ?_ ?_)))<;>((conv=>whnf)<;>(first|exact congrArg (AV.int .i64) (by omega)|(simp only [e3];done)|(simp only [e3,List.map_append,List.map_cons,List.map_nil];done)|(simp only [e3,List.map_append,List.map_cons,List.map_nil];rfl)))
    omega
   ·have ej:j=(1+ka).toNat:=by omega
    subst ej
    generalize hq:itN (dN rs.length st.length) (1+ka).toNat [] c5=q at g1 g2 hR ⊢
    obtain⟨al,c6⟩:=q
    dsimp only at g1 g2 hR ⊢
    obtain⟨kl,c7,e7,h7,kl0,kl1⟩:=aK g2 4
    have kl1:=kl1 (by decide)
    have B7:=fA e7 g2 (by decide)
    rw [e7] at hR
    dsimp only at hR
    have hml:((al.map aC.av).length:Int)=al.length:=by rw [List.length_map]
    have hK:∃K:Nat,K=if 1 < al.length then kl.toNat else 0:=⟨_,rfl⟩
    obtain⟨K,hK⟩:=hK
    rw [← hK] at hR
    have hLi:=fun j=>mg (f:=bM al.length) (fun j l=>l.length=j) (fun k l c hc h=>⟨by simp [bM,h],FX al.length hc⟩) j [] c7 h7 rfl
    (repeat' ((conv=>whnf);first|(exfalso;omega)|refine gA ?_|(refine gB ?_ ?_<;>intro h)|refine gP ?_|refine gV ?_|refine gC (B7) ?_|intro _))<;>try (conv=>whnf)
    refine aB [0,4,5,9] [4] [67,116,37,43] ?_
    (conv=>whnf)
    refine aA.mk ((Nat)) (fun i=>(i≤K)) (fun i=>[(10,.data (i64 (kl - i)))]) (fun i=>[(5,[.data (i64 (12+d)),.own 67 0,.own 116 0,.own 37 0,.own 43 0]),(1000000,[.data (u8s (itN (bM al.length) i [] c7).2.b),.data (i64 (itN (bM al.length) i [] c7).2.i),.data (i64 (itN (bM al.length) i [] c7).2.h)])]) (fun i=>[(67,101,al.map aC.av,0),(116,104,(itN (bM al.length) i [] c7).1.map Link.av,0),(37,96,rs.map dR.av,0),(43,3,st.map i64,0)]) (fun i=>K - i) (0) ?_ ?_ ?_
    rotate_left
    ·(repeat' ((conv=>whnf)<;>(first|exact trivial|exact rfl|with_reducible refine And.intro ?_ ?_)))<;>((conv=>whnf)<;>(exact congrArg (AV.int .i64) (by omega)))
    rotate_left
    ·omega
    rintro i hi
    obtain⟨n1,n2⟩:=hLi i
    by_cases hli:i < K
    ·have hn:1 < al.length:=by
      by_cases hh:1 < al.length
      ·exact hh
      ·rw [if_neg hh] at hK;omega
     rw [if_pos hn] at hK
     have e8:itN (bM al.length) (i+1) [] c7=FW al.length (itN (bM al.length) i [] c7):=rfl
     generalize hq2:itN (bM al.length) i [] c7=q2 at n1 n2 e8 ⊢
     obtain⟨ls,cv⟩:=q2
     dsimp only at n1 n2 e8 ⊢
     unfold FW at e8
     dsimp only at e8
     obtain⟨a,d1,f1,m1,a0,a1⟩:=aK n2 ((al.length:Int) - 1)
     obtain⟨t,d2,f2,m2,t0,t1⟩:=aK m1 ((al.length:Int) - 1 - a)
     obtain⟨ee,d3,f3,m3,ee0,ee1⟩:=aK m2 3
     obtain⟨lg,d4,f4,m4,lg0,lg1⟩:=aK m3 3
     obtain⟨o,d5,f5,m5,o0,o1⟩:=aK m4 6
     obtain⟨mm,d6,f6,m6,mm0,mm1⟩:=aK m5 9
     have a1:=a1 (by omega)
     have t1:=t1 (by omega)
     have lg1:=lg1 (by decide)
     have mm1:=mm1 (by decide)
     have D1:=fA f1 n2 (by omega)
     have D2:=fA f2 m1 (by omega)
     have D3:=AU f3 m2 (by decide)
     have D4:=fA f4 m3 (by decide)
     have D5:=AU f5 m4 (by decide)
     have D6:=fA f6 m5 (by decide)
     rw [← hml] at D1 D2
     by_cases ho:o=0
     ·have e9:dF al.length cv=(⟨a+1+t,a,false, -4 - mm⟩,d6):=by
       unfold dF
       rw [f1];dsimp only;rw [f2];dsimp only;rw [f3];dsimp only;rw [f4];dsimp only;rw [f5];dsimp only;rw [if_pos ho,f6]
      rw [e9] at e8
      (repeat' ((conv=>whnf);first|with_reducible refine Br.yes (decide_eq_true ho) ?_|refine gA ?_|(refine gB ?_ ?_<;>intro h)|refine gP ?_|refine gV ?_|refine gC (D1) ?_|refine gC (D2) ?_|refine gC (D3) ?_|refine gC (D4) ?_|refine gC (D5) ?_|refine gC (D6) ?_|intro _))<;>try (conv=>whnf)
      all_goals first
       |(exfalso;omega)
       |skip
      refine nw (i+1) ?_ ?_
      ·(repeat' ((conv=>whnf)<;>(first|exact trivial|exact rfl|with_reducible refine And.intro ?_ ?_)))<;>((conv=>whnf)<;>(first|exact congrArg (AV.int .i64) (by omega)|(simp only [e8];done)|(simp only [e8,List.map_append,List.map_cons,List.map_nil];done)|(simp only [e8,List.map_append,List.map_cons,List.map_nil];rfl)))
      omega
     ·have e9:dF al.length cv=(⟨a,a+1+t, !decide (ee=0),lg⟩,d5):=by
       unfold dF
       rw [f1];dsimp only;rw [f2];dsimp only;rw [f3];dsimp only;rw [f4];dsimp only;rw [f5];dsimp only;rw [if_neg ho]
      rw [e9] at e8
      (repeat' ((conv=>whnf);first|with_reducible refine Br.no (decide_eq_false ho) ?_|refine gA ?_|(refine gB ?_ ?_<;>intro h)|refine gP ?_|refine gV ?_|refine gC (D1) ?_|refine gC (D2) ?_|refine gC (D3) ?_|refine gC (D4) ?_|refine gC (D5) ?_|intro _))<;>try (conv=>whnf)
      all_goals first
       |(exfalso;omega)
       |skip
      refine nw (i+1) ?_ ?_
      ·(repeat' ((conv=>whnf)<;>(first|exact trivial|exact rfl|with_reducible refine And.intro ?_ ?_)))<;>((conv=>whnf)<;>(first|exact congrArg (AV.int .i64) (by omega)|(simp only [e8];done)|(simp only [e8,List.map_append,List.map_cons,List.map_nil];done)|(simp only [e8,List.map_append,List.map_cons,List.map_nil];rfl)))
      omega
    ·obtain rfl:i=K:=by omega
     have hend:¬(kl - i > 0∧(al.length:Int) > 1):=by
      rintro⟨q1,q2⟩
      rw [if_pos (by omega)] at hK
      omega
     subst hR
     (repeat' ((conv=>whnf);first|refine gA ?_|(refine gB ?_ ?_<;>intro h)|refine gP ?_|refine gV ?_|intro _))<;>try (conv=>whnf)
     all_goals first
      |(exfalso;omega)
      |exact fv
  ·rw [if_neg ho] at hst
   have abT:st= []:=(congrArg Prod.fst hst).symm
   have abU:c4=co:=(congrArg Prod.snd hst).symm
   subst abU
   (repeat' ((conv=>whnf);first|with_reducible refine Br.no (decide_eq_false (by omega)) ?_|with_reducible refine Br.no (decide_eq_false ho) ?_|refine gA ?_|(refine gB ?_ ?_<;>intro h)|refine gP ?_|refine gV ?_|refine gC (B5) ?_|refine gC (BO) ?_|intro _))<;>try (conv=>whnf)
   refine aB [0,4,5] [4] [67,37,43] ?_
   (conv=>whnf)
   refine aA.mk ((Nat)) (fun j=>((j:Int)≤1+ka)) (fun j=>[(8,.data (i64 (1+ka - j)))]) (fun j=>[(5,[.data (i64 (12+d)),.own 67 0,.ah,.own 37 0,.own 43 0]),(1000000,[.data (u8s (itN (dN rs.length st.length) j [] c5).2.b),.data (i64 (itN (dN rs.length st.length) j [] c5).2.i),.data (i64 (itN (dN rs.length st.length) j [] c5).2.h)])]) (fun j=>[(67,101,(itN (dN rs.length st.length) j [] c5).1.map aC.av,0),(37,96,rs.map dR.av,0),(43,3,st.map i64,0)]) (fun j=>(1+ka).toNat - j) (0) ?_ ?_ ?_
   rotate_left
   ·(repeat' ((conv=>whnf)<;>(first|exact trivial|exact rfl|with_reducible refine And.intro ?_ ?_)))<;>((conv=>whnf)<;>(first|exact congrArg (AV.int .i64) (by omega)|exact (by rw [abT];rfl)))
   rotate_left
   ·omega
   rintro j hj
   obtain⟨g1,g2⟩:=hAi j
   by_cases hlt:(j:Int) < 1+ka
   ·have e3:itN (dN rs.length st.length) (j+1) [] c5=JB rs.length st.length (itN (dN rs.length st.length) j [] c5):=rfl
    generalize hq:itN (dN rs.length st.length) j [] c5=q at g1 g2 e3 ⊢
    obtain⟨l,cu⟩:=q
    dsimp only at g1 g2 e3 ⊢
    have BA:=FV cu g2 l.length rs.length st.length (by omega) (by omega)
    unfold JB at e3
    dsimp only at e3
    have hm1:((l.map aC.av).length:Int)=l.length:=by rw [List.length_map]
    have hm2:((rs.map dR.av).length:Int)=rs.length:=by rw [List.length_map]
    have hm3:((st.map i64).length:Int)=st.length:=by rw [List.length_map]
    rw [← hm1, ← hm2, ← hm3] at BA
    (repeat' ((conv=>whnf);first|refine gA ?_|(refine gB ?_ ?_<;>intro h)|refine gP ?_|refine gV ?_|refine gC (BA) ?_|intro _))<;>try (conv=>whnf)
    all_goals first
     |(exfalso;omega)
     |skip
    refine nw (j+1) ?_ ?_
    ·(repeat' ((conv=>whnf)<;>(first|exact trivial|exact rfl|with_reducible refine And.intro ?_ ?_)))<;>((conv=>whnf)<;>(first|exact congrArg (AV.int .i64) (by omega)|(simp only [e3];done)|(simp only [e3,List.map_append,List.map_cons,List.map_nil];done)|(simp only [e3,List.map_append,List.map_cons,List.map_nil];rfl)))
    omega
   ·have ej:j=(1+ka).toNat:=by omega
    subst ej
    generalize hq:itN (dN rs.length st.length) (1+ka).toNat [] c5=q at g1 g2 hR ⊢
    obtain⟨al,c6⟩:=q
    dsimp only at g1 g2 hR ⊢
    obtain⟨kl,c7,e7,h7,kl0,kl1⟩:=aK g2 4
    have kl1:=kl1 (by decide)
    have B7:=fA e7 g2 (by decide)
    rw [e7] at hR
    dsimp only at hR
    have hml:((al.map aC.av).length:Int)=al.length:=by rw [List.length_map]
    have hK:∃K:Nat,K=if 1 < al.length then kl.toNat else 0:=⟨_,rfl⟩
    obtain⟨K,hK⟩:=hK
    rw [← hK] at hR
    have hLi:=fun j=>mg (f:=bM al.length) (fun j l=>l.length=j) (fun k l c hc h=>⟨by simp [bM,h],FX al.length hc⟩) j [] c7 h7 rfl
    (repeat' ((conv=>whnf);first|(exfalso;omega)|refine gA ?_|(refine gB ?_ ?_<;>intro h)|refine gP ?_|refine gV ?_|refine gC (B7) ?_|intro _))<;>try (conv=>whnf)
    refine aB [0,4,5,9] [4] [67,116,37,43] ?_
    (conv=>whnf)
    refine aA.mk ((Nat)) (fun i=>(i≤K)) (fun i=>[(10,.data (i64 (kl - i)))]) (fun i=>[(5,[.data (i64 (12+d)),.own 67 0,.own 116 0,.own 37 0,.own 43 0]),(1000000,[.data (u8s (itN (bM al.length) i [] c7).2.b),.data (i64 (itN (bM al.length) i [] c7).2.i),.data (i64 (itN (bM al.length) i [] c7).2.h)])]) (fun i=>[(67,101,al.map aC.av,0),(116,104,(itN (bM al.length) i [] c7).1.map Link.av,0),(37,96,rs.map dR.av,0),(43,3,st.map i64,0)]) (fun i=>K - i) (0) ?_ ?_ ?_
    rotate_left
    ·(repeat' ((conv=>whnf)<;>(first|exact trivial|exact rfl|with_reducible refine And.intro ?_ ?_)))<;>((conv=>whnf)<;>(exact congrArg (AV.int .i64) (by omega)))
    rotate_left
    ·omega
    rintro i hi
    obtain⟨n1,n2⟩:=hLi i
    by_cases hli:i < K
    ·have hn:1 < al.length:=by
      by_cases hh:1 < al.length
      ·exact hh
      ·rw [if_neg hh] at hK;omega
     rw [if_pos hn] at hK
     have e8:itN (bM al.length) (i+1) [] c7=FW al.length (itN (bM al.length) i [] c7):=rfl
     generalize hq2:itN (bM al.length) i [] c7=q2 at n1 n2 e8 ⊢
     obtain⟨ls,cv⟩:=q2
     dsimp only at n1 n2 e8 ⊢
     unfold FW at e8
     dsimp only at e8
     obtain⟨a,d1,f1,m1,a0,a1⟩:=aK n2 ((al.length:Int) - 1)
     obtain⟨t,d2,f2,m2,t0,t1⟩:=aK m1 ((al.length:Int) - 1 - a)
     obtain⟨ee,d3,f3,m3,ee0,ee1⟩:=aK m2 3
     obtain⟨lg,d4,f4,m4,lg0,lg1⟩:=aK m3 3
     obtain⟨o,d5,f5,m5,o0,o1⟩:=aK m4 6
     obtain⟨mm,d6,f6,m6,mm0,mm1⟩:=aK m5 9
     have a1:=a1 (by omega)
     have t1:=t1 (by omega)
     have lg1:=lg1 (by decide)
     have mm1:=mm1 (by decide)
     have D1:=fA f1 n2 (by omega)
     have D2:=fA f2 m1 (by omega)
     have D3:=AU f3 m2 (by decide)
     have D4:=fA f4 m3 (by decide)
     have D5:=AU f5 m4 (by decide)
     have D6:=fA f6 m5 (by decide)
     rw [← hml] at D1 D2
     by_cases ho:o=0
     ·have e9:dF al.length cv=(⟨a+1+t,a,false, -4 - mm⟩,d6):=by
       unfold dF
       rw [f1];dsimp only;rw [f2];dsimp only;rw [f3];dsimp only;rw [f4];dsimp only;rw [f5];dsimp only;rw [if_pos ho,f6]
      rw [e9] at e8
      (repeat' ((conv=>whnf);first|with_reducible refine Br.yes (decide_eq_true ho) ?_|refine gA ?_|(refine gB ?_ ?_<;>intro h)|refine gP ?_|refine gV ?_|refine gC (D1) ?_|refine gC (D2) ?_|refine gC (D3) ?_|refine gC (D4) ?_|refine gC (D5) ?_|refine gC (D6) ?_|intro _))<;>try (conv=>whnf)
      all_goals first
       |(exfalso;omega)
       |skip
      refine nw (i+1) ?_ ?_
      ·(repeat' ((conv=>whnf)<;>(first|exact trivial|exact rfl|with_reducible refine And.intro ?_ ?_)))<;>((conv=>whnf)<;>(first|exact congrArg (AV.int .i64) (by omega)|(simp only [e8];done)|(simp only [e8,List.map_append,List.map_cons,List.map_nil];done)|(simp only [e8,List.map_append,List.map_cons,List.map_nil];rfl)))
      omega
     ·have e9:dF al.length cv=(⟨a,a+1+t, !decide (ee=0),lg⟩,d5):=by
       unfold dF
       rw [f1];dsimp only;rw [f2];dsimp only;rw [f3];dsimp only;rw [f4];dsimp only;rw [f5];dsimp only;rw [if_neg ho]
      rw [e9] at e8
      (repeat' ((conv=>whnf);first|with_reducible refine Br.no (decide_eq_false ho) ?_|refine gA ?_|(refine gB ?_ ?_<;>intro h)|refine gP ?_|refine gV ?_|refine gC (D1) ?_|refine gC (D2) ?_|refine gC (D3) ?_|refine gC (D4) ?_|refine gC (D5) ?_|intro _))<;>try (conv=>whnf)
      all_goals first
       |(exfalso;omega)
       |skip
      refine nw (i+1) ?_ ?_
      ·(repeat' ((conv=>whnf)<;>(first|exact trivial|exact rfl|with_reducible refine And.intro ?_ ?_)))<;>((conv=>whnf)<;>(first|exact congrArg (AV.int .i64) (by omega)|(simp only [e8];done)|(simp only [e8,List.map_append,List.map_cons,List.map_nil];done)|(simp only [e8,List.map_append,List.map_cons,List.map_nil];rfl)))
      omega
    ·obtain rfl:i=K:=by omega
     have hend:¬(kl - i > 0∧(al.length:Int) > 1):=by
      rintro⟨q1,q2⟩
      rw [if_pos (by omega)] at hK
      omega
     subst hR
     (repeat' ((conv=>whnf);first|refine gA ?_|(refine gB ?_ ?_<;>intro h)|refine gP ?_|refine gV ?_|intro _))<;>try (conv=>whnf)
     all_goals first
      |(exfalso;omega)
      |exact fv
theorem Mx (code:List Int):Con 4 [.d (u8s code)] (.d (gD code).av):=by
 refine con Tryz.func4 rfl rfl Tryz.call4 rfl fun hwf=>?_
 have BP:=Rv (zC code) (Gw code) 2 (by decide)
 have hok:=(Ey 2 (by decide) (Gw code)).2.2
 unfold gD
 dsimp only
 generalize kJ 2 (zC code)=q at BP hok ⊢
 obtain⟨p,cp⟩:=q
 dsimp only at BP hok ⊢
 obtain⟨x,cx,e1,h1,x0,x1⟩:=aK hok 4
 have x1:=x1 (by decide)
 have B1:=fA e1 hok (by decide)
 rw [e1]
 (repeat' ((conv=>whnf);first|refine gA ?_|(refine gB ?_ ?_<;>intro h)|refine gV ?_|refine gC (Uv code) ?_|refine gC (BP) ?_|refine gC (B1) ?_|intro _))<;>try (conv=>whnf)
 exact fv
end Go.Proofs.YtmenphiahgkjkaaGreatDoor.Abs
