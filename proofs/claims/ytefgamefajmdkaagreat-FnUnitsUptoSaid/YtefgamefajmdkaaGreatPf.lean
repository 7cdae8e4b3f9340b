/- The law of proofs, with the contract of the drawn proof as its premise. -/
import Derived.Test.YtefgamefajmdkaaGreatB4
import Derived.Test.YtefgamefajmdkaaGreatC70
import Derived.Test.YtefgamefajmdkaaGreatDr
import Derived.Test.YtefgamefajmdkaaGreatC65
set_option linter.all false
set_option maxRecDepth 20000
set_option maxHeartbeats 0
namespace Go.Proofs.YtefgamefajmdkaaGreat.Abs
open Go.Proofs
theorem xC (code:List Int):(dQ code).fine:=by
 intro a ha
 obtain⟨i,hi,rfl⟩:=List.getElem_of_mem ha
 have h:=((mJ code).1.aok i _ (List.getElem?_eq_getElem hi)).1
 simp only [bG,Bool.and_eq_true,uj,within_iff] at h
 have:=h.2.1.1.2.2
 unfold lim;omega
theorem Nu {α β:Type} {f:α→List β} {c:Nat}:∀{l:List α},(∀x∈l,(f x).length≤c)→(l.flatMap f).length≤l.length*c
 |[],_=>by simp
 |x::l,h=>by
  rw [List.flatMap_cons,List.length_append,List.length_cons,Nat.succ_mul]
  have:=Nu (l:=l) fun y hy=>h y (List.mem_cons_of_mem _ hy)
  have:=h x (List.mem_cons_self ..)
  omega
theorem zB {p:Proj} (ho:aF p=true) (h3:p.acts.length≤3) {m:Nat} (hm:m≤12):(iL p m).length≤27*2197:=by
 have hL:(mE p.acts).length≤27:=by
  refine Nat.le_trans (Df fun a ha=>?_) (Nat.le_trans (Nat.pow_le_pow_right (by decide) h3) (by decide))
  obtain⟨j,hj,e⟩:=List.mem_iff_getElem.1 ha
  have:=iT ho hj
  have hg:=fV (p:=p) hj
  rw [List.getElem?_eq_getElem hj,Option.some.injEq,e] at hg
  rw [hg];exact this.2
 unfold iL
 refine Nat.le_trans (Nu (c:=2197) fun ms _=>?_) (Nat.mul_le_mul_right _ hL)
 refine Nat.le_trans (List.length_filter_le _ _) ?_
 rw [List.length_map,tT]
 calc (m+1) ^ p.acts.length≤13 ^ p.acts.length:=Nat.pow_le_pow_left (by omega) _
  _≤13 ^ 3:=Nat.pow_le_pow_right (by decide) h3
attribute [local irreducible] dQ nV iL aM mH rF bI UK
end Go.Proofs.YtefgamefajmdkaaGreat.Abs
namespace Go.Proofs.YtefgamefajmdkaaGreat.Abs
open Go.Proofs
attribute [local irreducible] below bJ aM jG
theorem nX (p:Proj) (hp:aF p=true) (c:Cur) (hc:c.ok):Con 62 [.bx c.cells,.d p.av] (RDr (.d (jy p c).1.av) (jy p c).2):=by
 refine con Tryz.func62 rfl rfl Tryz.call62 rfl fun hwf=>?_
 clear hwf
 have hh:=jw hp
 have hr:p.bB.length≤3∧p.aY.length≤2∧p.links.length≤12:=by
  simp only [aF,nN,Bool.and_eq_true,Bool.not_eq_true',decide_eq_false_iff_not] at hp
  omega
 obtain⟨k,c1,e1,h1,k0,k1⟩:=ak hc 7
 have k1:=k1 (by decide)
 have D1:=aP e1 hc (by decide)
 obtain⟨df,cd,ed,hd,df0,df1⟩:=ak h1 (max (p.acts.length:Int) 1)
 have DD:=aP ed h1 (by omega)
 have hm1:((p.acts.map aH.av).length:Int)=p.acts.length:=by rw [List.length_map]
 have hm2:((p.bB.map fE.av).length:Int)=p.bB.length:=by rw [List.length_map]
 have hm3:((p.links.map Link.av).length:Int)=p.links.length:=by rw [List.length_map]
 have hm4:((p.aY.map i64).length:Int)=p.aY.length:=by rw [List.length_map]
 have BM:=mZ (p.acts.length:Int) 1
 rw [← hm1] at DD BM
 obtain⟨R,hR⟩:∃R,R=jy p c:=⟨_,rfl⟩
 rw [← hR]
 unfold jy at hR
 rw [e1] at hR
 dsimp only at hR
 rw [ed] at hR
 dsimp only at hR
 by_cases q0:k=0
 ·rw [if_pos q0] at hR
  by_cases hn:0 < p.links.length
  ·rw [if_pos hn] at hR
   obtain⟨x,c2,e2,h2,x0,x1⟩:=ak h1 p.links.length
   have D2:=aP e2 h1 (by omega)
   rw [← hm3] at D2
   rw [e2] at hR
   subst hR
   (repeat' ((conv=>whnf);first|with_reducible refine Br.yes (decide_eq_true (by omega)) ?_|with_reducible refine Br.no (decide_eq_false (by omega)) ?_|refine gA ?_|(refine gB ?_ ?_<;>intro h)|refine gV ?_|refine gC (D1) ?_|refine gC (D2) ?_|intro _))<;>try (conv=>whnf)
   all_goals first
    |(exfalso;omega)
    |exact fv
  ·rw [if_neg hn] at hR
   subst hR
   (repeat' ((conv=>whnf);first|with_reducible refine Br.yes (decide_eq_true (by omega)) ?_|with_reducible refine Br.no (decide_eq_false (by omega)) ?_|refine gA ?_|(refine gB ?_ ?_<;>intro h)|refine gV ?_|refine gC (D1) ?_|refine gC (DD) ?_|refine gC (BM) ?_|intro _))<;>try (conv=>whnf)
   all_goals first
    |(exfalso;omega)
    |exact fv
 rw [if_neg q0] at hR
 by_cases q1:k=1
 ·rw [if_pos q1] at hR
  by_cases hn:0 < p.aY.length
  ·rw [if_pos hn] at hR
   obtain⟨x,c2,e2,h2,x0,x1⟩:=ak h1 p.aY.length
   have D2:=aP e2 h1 (by omega)
   rw [← hm4] at D2
   rw [e2] at hR
   subst hR
   (repeat' ((conv=>whnf);first|with_reducible refine Br.yes (decide_eq_true (by omega)) ?_|with_reducible refine Br.no (decide_eq_false (by omega)) ?_|refine gA ?_|(refine gB ?_ ?_<;>intro h)|refine gV ?_|refine gC (D1) ?_|refine gC (D2) ?_|intro _))<;>try (conv=>whnf)
   all_goals first
    |(exfalso;omega)
    |exact fv
  ·rw [if_neg hn] at hR
   subst hR
   (repeat' ((conv=>whnf);first|with_reducible refine Br.yes (decide_eq_true (by omega)) ?_|with_reducible refine Br.no (decide_eq_false (by omega)) ?_|refine gA ?_|(refine gB ?_ ?_<;>intro h)|refine gV ?_|refine gC (D1) ?_|refine gC (DD) ?_|refine gC (BM) ?_|intro _))<;>try (conv=>whnf)
   all_goals first
    |(exfalso;omega)
    |exact fv
 rw [if_neg q1] at hR
 by_cases q2:k=2∨k=3
 ·rw [if_pos q2] at hR
  obtain⟨x,c2,e2,h2,x0,x1⟩:=ak h1 8
  obtain⟨y,c3,e3,h3,y0,y1⟩:=ak h2 8
  have x1:=x1 (by decide)
  have y1:=y1 (by decide)
  obtain⟨a,c4,e4,h4,a0,a1⟩:=ak h3 ((p.bB.length:Int)+y / 7)
  have a1:=a1
  obtain⟨z,c5,e5,h5,z0,z1⟩:=ak h4 6
  have z1:=z1 (by decide)
  have D2:=aP e2 h1 (by decide)
  have D3:=aP e3 h2 (by decide)
  have D4:=aP e4 h3 (by omega)
  have D5:=aP e5 h4 (by decide)
  have hy:y.tdiv 7=y / 7:=Int.tdiv_eq_ediv_of_nonneg y0
  rw [← hm2, ← hy] at D4
  simp only [e2,e3,e4,e5] at hR
  subst hR
  (repeat' ((conv=>whnf);first|with_reducible refine Br.yes (decide_eq_true (by omega)) ?_|with_reducible refine Br.no (decide_eq_false (by omega)) ?_|refine gA ?_|(refine gB ?_ ?_<;>intro h)|refine gV ?_|refine gC (D1) ?_|refine gC (D2) ?_|refine gC (D3) ?_|refine gC (D4) ?_|refine gC (D5) ?_|intro _))<;>try (conv=>whnf)
  all_goals first
   |(exfalso;omega)
   |exact fv
 rw [if_neg q2] at hR
 by_cases q4:k=4
 ·rw [if_pos q4] at hR
  by_cases hn:1 < (p.acts.length:Int)
  ·rw [if_pos hn] at hR
   obtain⟨b,c2,e2,h2,b0,b1⟩:=ak h1 ((p.acts.length:Int) - 1)
   have b1:=b1 (by omega)
   obtain⟨a,c3,e3,h3,a0,a1⟩:=ak h2 ((p.bB.length:Int)+1)
   obtain⟨z,c4,e4,h4,z0,z1⟩:=ak h3 ((p.acts.length:Int) - 1 - b)
   have z1:=z1 (by omega)
   have D2:=aP e2 h1 (by omega)
   have D3:=aP e3 h2 (by omega)
   have D4:=aP e4 h3 (by omega)
   rw [← hm1] at D2 D4
   rw [← hm2] at D3
   simp only [e2,e3,e4] at hR
   subst hR
   (repeat' ((conv=>whnf);first|with_reducible refine Br.yes (decide_eq_true (by omega)) ?_|with_reducible refine Br.no (decide_eq_false (by omega)) ?_|refine gA ?_|(refine gB ?_ ?_<;>intro h)|refine gV ?_|refine gC (D1) ?_|refine gC (D2) ?_|refine gC (D3) ?_|refine gC (D4) ?_|intro _))<;>try (conv=>whnf)
   all_goals first
    |(exfalso;omega)
    |exact fv
  ·rw [if_neg hn] at hR
   subst hR
   (repeat' ((conv=>whnf);first|with_reducible refine Br.yes (decide_eq_true (by omega)) ?_|with_reducible refine Br.no (decide_eq_false (by omega)) ?_|refine gA ?_|(refine gB ?_ ?_<;>intro h)|refine gV ?_|refine gC (D1) ?_|refine gC (DD) ?_|refine gC (BM) ?_|intro _))<;>try (conv=>whnf)
   all_goals first
    |(exfalso;omega)
    |exact fv
 rw [if_neg q4] at hR
 by_cases q5:k=5
 ·rw [if_pos q5] at hR
  obtain⟨y,c2,e2,h2,y0,y1⟩:=ak h1 8
  have y1:=y1 (by decide)
  obtain⟨a,c3,e3,h3,a0,a1⟩:=ak h2 ((p.bB.length:Int)+y / 7)
  obtain⟨z,c4,e4,h4,z0,z1⟩:=ak h3 12
  have D2:=aP e2 h1 (by decide)
  have D3:=aP e3 h2 (by omega)
  have D4:=aP e4 h3 (by decide)
  have hy:y.tdiv 7=y / 7:=Int.tdiv_eq_ediv_of_nonneg y0
  rw [← hm2, ← hy] at D3
  simp only [e2,e3,e4] at hR
  subst hR
  (repeat' ((conv=>whnf);first|with_reducible refine Br.yes (decide_eq_true (by omega)) ?_|with_reducible refine Br.no (decide_eq_false (by omega)) ?_|refine gA ?_|(refine gB ?_ ?_<;>intro h)|refine gV ?_|refine gC (D1) ?_|refine gC (D2) ?_|refine gC (D3) ?_|refine gC (D4) ?_|intro _))<;>try (conv=>whnf)
  all_goals first
   |(exfalso;omega)
   |exact fv
 ·rw [if_neg q5] at hR
  subst hR
  (repeat' ((conv=>whnf);first|with_reducible refine Br.yes (decide_eq_true (by omega)) ?_|with_reducible refine Br.no (decide_eq_false (by omega)) ?_|refine gA ?_|(refine gB ?_ ?_<;>intro h)|refine gV ?_|refine gC (D1) ?_|refine gC (DD) ?_|refine gC (BM) ?_|intro _))<;>try (conv=>whnf)
  all_goals first
   |(exfalso;omega)
   |exact fv
theorem Lf {l:List Lit} {k:Nat} {x y:Lit} (hx:l[k]? =some x):gT (l.take (k+1)) y=gT (l.take k) y++(if dD x y=true then [] else [x]):=by
 obtain⟨hk,rfl⟩:=List.getElem?_eq_some_iff.1 hx
 unfold gT
 rw [List.take_succ_eq_append_getElem hk,List.filter_append]
 congr 1
 cases h:dD l[k] y<;>simp [h]
theorem UM (x l:Lit):(decide (x.kind=l.kind)&&(decide (x.act=l.act)&&(decide (x.val=l.val)&&true)))=dD x l:=by
 simp only [dD,Bool.and_true]
theorem PW (a b:List Lit) (l:Lit) (ha:a.length≤1000) (hb:b.length≤1000):Con 110 [.old (lits a),.old (lits b),.d l.av] (.d (lits (resolve a b l))):=by
 refine con Tryz.func110 rfl rfl Tryz.call110 rfl fun hwf=>?_
 simp only [ARs.wf,AR.wf,AV.wf,AV.wfs,lm,lim] at hwf
 have hl:∀(m:List Lit) (y:Lit) (k:Nat),(gT (m.take k) y).length≤k:=fun m y k=>by
  unfold gT
  have h1:=List.length_filter_le (fun z=> !dD z y) (m.take k)
  have h2:(m.take k).length≤k:=by rw [List.length_take];omega
  omega
 (repeat' ((conv=>whnf);first|refine gA ?_|(refine gB ?_ ?_<;>intro h)|(refine gI ?_;intro x hx)|(refine gJ ?_;intro j x hj hx)|refine gP ?_|refine gV ?_|intro _))<;>try (conv=>whnf)
 refine aB [1,5,13,14] [5] [12] ?_
 (conv=>whnf)
 refine aA.go ((Nat)) (fun k=>(k≤a.length)) (fun k=>[(15,.data (i64 k)),(7,.own 12 0)]) (fun _=>[]) (fun k=>[(12,82,(gT (a.take k) l).map Lit.av,0)]) (fun k=>a.length - k) (0) ?_ ?_
 ·exact Nat.zero_le _
 rintro k hk
 by_cases hlt:k < a.length
 ·obtain⟨x,hx⟩:∃x,a[k]? =some x:=⟨a[k]'hlt,by simp⟩
  have hs:=Lf (y:=l) hx
  have hn:=UM x l
  have hlk:=hl a l k
  generalize gT (a.take k) l=o at hs hlk ⊢
  cases hc:dD x l with
  |true=>
   rw [hc,if_pos rfl,List.append_nil] at hs
   rw [hc] at hn
   (repeat' ((conv=>whnf);first|with_reducible refine Idx.got hx rfl ?_|with_reducible refine Br.yes hn ?_|refine gA ?_|(refine gB ?_ ?_<;>intro h)|(refine gI ?_;intro x hx)|(refine gJ ?_;intro j x hj hx)|refine gP ?_|refine gV ?_|intro _))<;>try (conv=>whnf)
   all_goals first
    |(exfalso;omega)
    |skip
   refine nw (k+1) ?_ ?_
   ·(repeat' ((conv=>whnf)<;>(first|exact trivial|exact rfl|with_reducible refine And.intro ?_ ?_)))<;>((conv=>whnf)<;>((simp only [hs];done)))
   omega
  |false=>
   rw [hc,if_neg (by decide)] at hs
   rw [hc] at hn
   (repeat' ((conv=>whnf);first|with_reducible refine Idx.got hx rfl ?_|with_reducible refine Br.no hn ?_|refine gA ?_|(refine gB ?_ ?_<;>intro h)|(refine gI ?_;intro x hx)|(refine gJ ?_;intro j x hj hx)|refine gP ?_|refine gV ?_|intro _))<;>try (conv=>whnf)
   all_goals first
    |(exfalso;omega)
    |skip
   refine nw (k+1) ?_ ?_
   ·(repeat' ((conv=>whnf)<;>(first|exact trivial|exact rfl|with_reducible refine And.intro ?_ ?_)))<;>((conv=>whnf)<;>((simp only [hs,List.map_append,List.map_cons,List.map_nil];done)))
   omega
 ·obtain rfl:k=a.length:=by omega
  rw [List.take_length]
  have hla:=hl a l a.length
  rw [List.take_length] at hla
  generalize hA:gT a l=A at hla
  (repeat' ((conv=>whnf);first|(exfalso;omega)|refine gA ?_|(refine gB ?_ ?_<;>intro h)|(refine gI ?_;intro x hx)|(refine gJ ?_;intro j x hj hx)|refine gP ?_|refine gV ?_|intro _))<;>try (conv=>whnf)
  refine aB [5,27,28] [5] [12] ?_
  (conv=>whnf)
  refine aA.mk ((Nat)) (fun k=>(k≤b.length)) (fun k=>[(29,.data (i64 k)),(7,.own 12 0)]) (fun _=>[]) (fun k=>[(12,82,(A++gT (b.take k) (negate l)).map Lit.av,0)]) (fun k=>b.length - k) (0) ?_ ?_ ?_
  rotate_left
  ·(repeat' ((conv=>whnf)<;>(first|exact trivial|exact rfl|with_reducible refine And.intro ?_ ?_)))<;>((conv=>whnf)<;>((simp [gT];done)))
  rotate_left
  ·exact Nat.zero_le _
  rintro k hk
  by_cases hlt:k < b.length
  ·obtain⟨x,hx⟩:∃x,b[k]? =some x:=⟨b[k]'hlt,by simp⟩
   have hs:=Lf (y:=negate l) hx
   have hn:=UM x (negate l)
   have hlk:=hl b (negate l) k
   have hlo:(A++gT (b.take k) (negate l)).length≤a.length+k:=by rw [List.length_append];omega
   have BN:=pz l
   generalize gT (b.take k) (negate l)=o at hs hlo ⊢
   cases hc:dD x (negate l) with
   |true=>
    rw [hc,if_pos rfl,List.append_nil] at hs
    rw [hc] at hn
    (repeat' ((conv=>whnf);first|with_reducible refine Idx.got hx rfl ?_|with_reducible refine Br.yes hn ?_|refine gA ?_|(refine gB ?_ ?_<;>intro h)|(refine gI ?_;intro x hx)|(refine gJ ?_;intro j x hj hx)|refine gP ?_|refine gV ?_|refine gC (BN) ?_|intro _))<;>try (conv=>whnf)
    all_goals first
     |(exfalso;omega)
     |skip
    refine nw (k+1) ?_ ?_
    ·(repeat' ((conv=>whnf)<;>(first|exact trivial|exact rfl|with_reducible refine And.intro ?_ ?_)))<;>((conv=>whnf)<;>((simp only [hs];done)))
    omega
   |false=>
    rw [hc,if_neg (by decide)] at hs
    rw [hc] at hn
    (repeat' ((conv=>whnf);first|with_reducible refine Idx.got hx rfl ?_|with_reducible refine Br.no hn ?_|refine gA ?_|(refine gB ?_ ?_<;>intro h)|(refine gI ?_;intro x hx)|(refine gJ ?_;intro j x hj hx)|refine gP ?_|refine gV ?_|refine gC (BN) ?_|intro _))<;>try (conv=>whnf)
    all_goals first
     |(exfalso;omega)
     |skip
    refine nw (k+1) ?_ ?_
    ·(repeat' ((conv=>whnf)<;>(first|exact trivial|exact rfl|with_reducible refine And.intro ?_ ?_)))<;>((conv=>whnf)<;>((simp only [hs,List.map_append,List.map_cons,List.map_nil,List.append_assoc];done)))
    omega
  ·obtain rfl:k=b.length:=by omega
   rw [List.take_length]
   unfold resolve
   rw [hA]
   (repeat' ((conv=>whnf);first|(exfalso;omega)|refine gA ?_|(refine gB ?_ ?_<;>intro h)|(refine gI ?_;intro x hx)|(refine gJ ?_;intro j x hj hx)|refine gP ?_|refine gV ?_|refine gC (nU (A++gT b (negate l))) ?_|intro _))<;>try (conv=>whnf)
   exact fv
theorem FE (p:Proj) (hp:aF p=true) (ls:List Lin) (hls:ls.length≤200) (hcl:∀x∈ls,x.clause.length≤200) (c:Cur) (hc:c.ok):Con 40 [.bx c.cells,.d p.av,.old (.sl (ls.map Lin.av))] (RDr (.d (iU p ls c).1.av) (iU p ls c).2):=by
 refine con Tryz.func40 rfl rfl Tryz.call40 rfl fun hwf=>?_
 clear hwf
 have BC:=FH p hp c hc 3 (by decide)
 have hcc:=zu hp hc 3
 have hml:((ls.map Lin.av).length:Int)=ls.length:=by rw [List.length_map]
 obtain⟨R,hR⟩:∃R,R=iU p ls c:=⟨_,rfl⟩
 rw [← hR]
 unfold iU wW at hR
 generalize jG p 3 c=q at BC hcc hR
 obtain⟨cl,c1⟩:=q
 dsimp only at BC hcc hR
 have fin:∀(y:List Lit) (cy:Cur),cy.ok→∃(o:Int) (co:Cur),below cy 5=(o,co)∧co.ok∧Con 90 [.bx cy.cells,.d (i64 5)] (RDr (.d (.bool (decide (o=0)))) co):=fun y cy hy=>by
  obtain⟨o,co,f1,f2,_,_⟩:=ak hy 5
  exact⟨o,co,f1,f2,qM f1 hy (by decide)⟩
 by_cases hn:1 < ls.length
 ·rw [if_pos hn] at hR
  obtain⟨o,c2,e2,h2,o0,o1⟩:=ak hcc 2
  have D2:=qM e2 hcc (by decide)
  rw [e2] at hR
  dsimp only at hR
  by_cases ho:o=0
  ·rw [if_pos ho] at hR
   obtain⟨i,c3,e3,h3,i0,i1⟩:=ak h2 ls.length
   obtain⟨j,c4,e4,h4,j0,j1⟩:=ak h3 ls.length
   have i1:=i1 (by omega)
   have j1:=j1 (by omega)
   have D3:=aP e3 h2 (by omega)
   have D4:=aP e4 h3 (by omega)
   rw [← hml] at D3 D4
   rw [e3] at hR
   dsimp only at hR
   rw [e4] at hR
   dsimp only at hR
   obtain⟨x,hx⟩:∃x,ls[i.toNat]? =some x:=⟨ls[i.toNat]'(by omega),by simp⟩
   obtain⟨y,hy⟩:∃y,ls[j.toNat]? =some y:=⟨ls[j.toNat]'(by omega),by simp⟩
   have hxc:=hcl x (List.mem_of_getElem? hx)
   have hyc:=hcl y (List.mem_of_getElem? hy)
   rw [getD_some hx,getD_some hy] at hR
   have hxi:(ls.map Lin.av)[i.toNat]? =some x.av:=by rw [List.getElem?_map,hx];rfl
   have hyj:(ls.map Lin.av)[j.toNat]? =some y.av:=by rw [List.getElem?_map,hy];rfl
   have ei:i=((i.toNat:Nat):Int):=by omega
   have ej:j=((j.toNat:Nat):Int):=by omega
   have BN:Con 109 [.d (.sl (([]++x.clause.map Lit.av)++y.clause.map Lit.av))] (.d (lits (cB (x.clause++y.clause)))):=by
    have h:=nU (x.clause++y.clause)
    rw [lits,List.map_append] at h
    exact h
   unfold UG at hR
   by_cases hx0:0 < x.clause.length
   ·rw [if_pos hx0] at hR
    obtain⟨k,c5,e5,h5,k0,k1⟩:=ak h4 x.clause.length
    have k1:=k1 (by omega)
    have D5:=aP e5 h4 (by omega)
    have hmc:((x.clause.map Lit.av).length:Int)=x.clause.length:=by rw [List.length_map]
    rw [← hmc] at D5
    rw [e5] at hR
    dsimp only at hR
    obtain⟨z,hz⟩:∃z,x.clause[k.toNat]? =some z:=⟨x.clause[k.toNat]'(by omega),by simp⟩
    rw [getD_some hz] at hR
    have hzk:(x.clause.map Lit.av)[k.toNat]? =some z.av:=by rw [List.getElem?_map,hz];rfl
    have ek:k=((k.toNat:Nat):Int):=by omega
    have BV:=PW x.clause y.clause z (by omega) (by omega)
    generalize resolve x.clause y.clause z=w at BV hR
    obtain⟨t,c6,f1,f2,D6⟩:=fin w c5 h5
    rw [f1] at hR
    dsimp only at hR
    by_cases ht:t=0
    ·rw [if_pos ht] at hR
     have BR:=nX p hp c6 f2
     generalize jy p c6=rr at BR hR
     obtain⟨rr,c7⟩:=rr
     subst hR
     (repeat' ((conv=>whnf);first|with_reducible refine Br.yes (decide_eq_true ho) ?_|with_reducible refine Br.yes (decide_eq_true ht) ?_|with_reducible refine Br.yes (decide_eq_true (by omega)) ?_|with_reducible refine Br.no (decide_eq_false (by omega)) ?_|refine Idx.Gz hxi ei ?_|refine Idx.Gz hyj ej ?_|refine Idx.Gz hzk ek ?_|refine gA ?_|(refine gB ?_ ?_<;>intro h)|(refine gI ?_;intro x hx)|(refine gJ ?_;intro j x hj hx)|refine gP ?_|refine gC (BC) ?_|refine gC (D2) ?_|refine gC (D3) ?_|refine gC (D4) ?_|refine gC (D5) ?_|refine gC (BN) ?_|refine gC (BV) ?_|refine gC (D6) ?_|refine gC (BR) ?_|intro _))<;>try (conv=>whnf)
     all_goals first
      |(exfalso;omega)
      |exact fv
    ·rw [if_neg ht] at hR
     subst hR
     (repeat' ((conv=>whnf);first|with_reducible refine Br.yes (decide_eq_true ho) ?_|with_reducible refine Br.no (decide_eq_false ht) ?_|with_reducible refine Br.yes (decide_eq_true (by omega)) ?_|with_reducible refine Br.no (decide_eq_false (by omega)) ?_|refine Idx.Gz hxi ei ?_|refine Idx.Gz hyj ej ?_|refine Idx.Gz hzk ek ?_|refine gA ?_|(refine gB ?_ ?_<;>intro h)|(refine gI ?_;intro x hx)|(refine gJ ?_;intro j x hj hx)|refine gP ?_|refine gC (BC) ?_|refine gC (D2) ?_|refine gC (D3) ?_|refine gC (D4) ?_|refine gC (D5) ?_|refine gC (BN) ?_|refine gC (BV) ?_|refine gC (D6) ?_|intro _))<;>try (conv=>whnf)
     all_goals first
      |(exfalso;omega)
      |exact fv
   ·rw [if_neg hx0] at hR
    generalize cB (x.clause++y.clause)=w at BN hR
    obtain⟨t,c6,f1,f2,D6⟩:=fin w c4 h4
    rw [f1] at hR
    dsimp only at hR
    by_cases ht:t=0
    ·rw [if_pos ht] at hR
     have BR:=nX p hp c6 f2
     generalize jy p c6=rr at BR hR
     obtain⟨rr,c7⟩:=rr
     subst hR
     (repeat' ((conv=>whnf);first|with_reducible refine Br.yes (decide_eq_true ho) ?_|with_reducible refine Br.yes (decide_eq_true ht) ?_|with_reducible refine Br.yes (decide_eq_true (by omega)) ?_|with_reducible refine Br.no (decide_eq_false (by omega)) ?_|refine Idx.Gz hxi ei ?_|refine Idx.Gz hyj ej ?_|refine gA ?_|(refine gB ?_ ?_<;>intro h)|(refine gI ?_;intro x hx)|(refine gJ ?_;intro j x hj hx)|refine gP ?_|refine gC (BC) ?_|refine gC (D2) ?_|refine gC (D3) ?_|refine gC (D4) ?_|refine gC (BN) ?_|refine gC (D6) ?_|refine gC (BR) ?_|intro _))<;>try (conv=>whnf)
     all_goals first
      |(exfalso;omega)
      |exact fv
    ·rw [if_neg ht] at hR
     subst hR
     (repeat' ((conv=>whnf);first|with_reducible refine Br.yes (decide_eq_true ho) ?_|with_reducible refine Br.no (decide_eq_false ht) ?_|with_reducible refine Br.yes (decide_eq_true (by omega)) ?_|with_reducible refine Br.no (decide_eq_false (by omega)) ?_|refine Idx.Gz hxi ei ?_|refine Idx.Gz hyj ej ?_|refine gA ?_|(refine gB ?_ ?_<;>intro h)|(refine gI ?_;intro x hx)|(refine gJ ?_;intro j x hj hx)|refine gP ?_|refine gC (BC) ?_|refine gC (D2) ?_|refine gC (D3) ?_|refine gC (D4) ?_|refine gC (BN) ?_|refine gC (D6) ?_|intro _))<;>try (conv=>whnf)
     all_goals first
      |(exfalso;omega)
      |exact fv
  ·rw [if_neg ho] at hR
   obtain⟨t,c6,f1,f2,D6⟩:=fin cl c2 h2
   rw [f1] at hR
   dsimp only at hR
   by_cases ht:t=0
   ·rw [if_pos ht] at hR
    have BR:=nX p hp c6 f2
    generalize jy p c6=rr at BR hR
    obtain⟨rr,c7⟩:=rr
    subst hR
    (repeat' ((conv=>whnf);first|with_reducible refine Br.no (decide_eq_false ho) ?_|with_reducible refine Br.yes (decide_eq_true ht) ?_|with_reducible refine Br.yes (decide_eq_true (by omega)) ?_|with_reducible refine Br.no (decide_eq_false (by omega)) ?_|refine gA ?_|(refine gB ?_ ?_<;>intro h)|(refine gI ?_;intro x hx)|(refine gJ ?_;intro j x hj hx)|refine gP ?_|refine gC (BC) ?_|refine gC (D2) ?_|refine gC (D6) ?_|refine gC (BR) ?_|intro _))<;>try (conv=>whnf)
    all_goals first
     |(exfalso;omega)
     |exact fv
   ·rw [if_neg ht] at hR
    subst hR
    (repeat' ((conv=>whnf);first|with_reducible refine Br.no (decide_eq_false ho) ?_|with_reducible refine Br.no (decide_eq_false ht) ?_|with_reducible refine Br.yes (decide_eq_true (by omega)) ?_|with_reducible refine Br.no (decide_eq_false (by omega)) ?_|refine gA ?_|(refine gB ?_ ?_<;>intro h)|(refine gI ?_;intro x hx)|(refine gJ ?_;intro j x hj hx)|refine gP ?_|refine gC (BC) ?_|refine gC (D2) ?_|refine gC (D6) ?_|intro _))<;>try (conv=>whnf)
    all_goals first
     |(exfalso;omega)
     |exact fv
 ·rw [if_neg hn] at hR
  obtain⟨t,c6,f1,f2,D6⟩:=fin cl c1 hcc
  dsimp only at hR
  rw [f1] at hR
  dsimp only at hR
  by_cases ht:t=0
  ·rw [if_pos ht] at hR
   have BR:=nX p hp c6 f2
   generalize jy p c6=rr at BR hR
   obtain⟨rr,c7⟩:=rr
   subst hR
   (repeat' ((conv=>whnf);first|with_reducible refine Br.yes (decide_eq_true ht) ?_|with_reducible refine Br.yes (decide_eq_true (by omega)) ?_|with_reducible refine Br.no (decide_eq_false (by omega)) ?_|refine gA ?_|(refine gB ?_ ?_<;>intro h)|(refine gI ?_;intro x hx)|(refine gJ ?_;intro j x hj hx)|refine gP ?_|refine gC (BC) ?_|refine gC (D6) ?_|refine gC (BR) ?_|intro _))<;>try (conv=>whnf)
   all_goals first
    |(exfalso;omega)
    |exact fv
  ·rw [if_neg ht] at hR
   subst hR
   (repeat' ((conv=>whnf);first|with_reducible refine Br.no (decide_eq_false ht) ?_|with_reducible refine Br.yes (decide_eq_true (by omega)) ?_|with_reducible refine Br.no (decide_eq_false (by omega)) ?_|refine gA ?_|(refine gB ?_ ?_<;>intro h)|(refine gI ?_;intro x hx)|(refine gJ ?_;intro j x hj hx)|refine gP ?_|refine gC (BC) ?_|refine gC (D6) ?_|intro _))<;>try (conv=>whnf)
   all_goals first
    |(exfalso;omega)
    |exact fv
end Go.Proofs.YtefgamefajmdkaaGreat.Abs
namespace Go.Proofs.YtefgamefajmdkaaGreat.Abs
open Go.Proofs
attribute [local irreducible] below bJ aM dS iU restrict aZ iw
def FI (p:Proj) (q:List Lin×Cur):List Lin×Cur:=(if aM p q.1 (iU p q.1 q.2).1=0 then q.1++[(iU p q.1 q.2).1] else q.1,(iU p q.1 q.2).2)
theorem UN:∀(a b:List AV),AV.mds false (a++b)=(AV.mds false a&&AV.mds false b)
 |[],b=>by simp [AV.mds]
 |x::a,b=>by simp only [List.cons_append,AV.mds,UN a b,Bool.and_assoc]
theorem Sv:∀(l:List Lit),AV.mds false (l.map Lit.av)=true
 |[]=>rfl
 |x::l=>by simp only [List.map_cons,AV.mds,Sv l,Bool.and_true];rfl
theorem Sw:∀(l:List Int),AV.mds false (l.map i64)=true
 |[]=>rfl
 |x::l=>by simp only [List.map_cons,AV.mds,Sw l,Bool.and_true];rfl
theorem zC:∀(l:List Lin),AV.mds false (l.map Lin.av)=true
 |[]=>rfl
 |x::l=>by
  simp only [List.map_cons,AV.mds,zC l,Bool.and_true]
  simp only [Lin.av,AV.md,AV.mds,Sv,Sw,lits,ints,Rul.av,UN,Bool.and_true,Bool.not_false,Bool.and_self]
  try rfl
theorem zD (p:Proj) (hs:Small p) (hpf:p.fine) (code:List Int):Con 8 [.d (u8s code),.d p.av] (.d (.sl ((nV p code).map Lin.av))):=by
 refine con Tryz.func8 rfl rfl Tryz.call8 rfl fun hwf=>?_
 clear hwf
 have hc:=ou (lI code) 19
 have BI:=sF p hs.ok hpf
 obtain⟨R,hR⟩:∃R,nV p code=R:=⟨_,rfl⟩
 rw [hR]
 unfold nV at hR
 dsimp only at hR
 generalize hcc:qD (mh code) 19=cc at hc hR
 obtain⟨n,c1,e1,h1,n0,n1⟩:=ak hc 5
 have n1:=n1 (by decide)
 have D1:=aP e1 hc (by decide)
 rw [← hcc] at D1
 rw [e1] at hR
 dsimp only at hR
 obtain⟨hX1,hX2,hX3⟩:=mQ hs (2+n).toNat (aT p) [] c1 (lV hs.ok) (fB.refl _ _) h1 (Right.nil p) (by simp;omega)
 generalize hX:iw p (2+n).toNat (aT p) [] c1=X at hX1 hX2 hX3 hR
 obtain⟨xs,cx⟩:=X
 dsimp only at hX1 hX2 hX3 hR
 (repeat' ((conv=>whnf);first|refine gA ?_|refine Arith.raw ?_|refine gA ?_|(refine gB ?_ ?_<;>intro h)|refine gP ?_|refine gV ?_|refine gC (pR code) ?_|refine gC (BI) ?_|refine gC (D1) ?_|intro _))<;>try (conv=>whnf)
 refine aB [3,5,6] [3] [26] ?_
 (conv=>whnf)
 refine aA.mk ((Dom)×(List Lin)×(Cur)×(Nat)) (fun⟨b,out,cu,k⟩=>(iw p k b out cu=(xs,cx))∧(aC p b=true)∧(wU p b)∧(cu.ok)∧(Right p out)∧(out.length+k≤10)) (fun⟨b,out,cu,k⟩=>[(8,.data (i64 (k:Nat))),(7,.own 26 0)]) (fun⟨b,out,cu,k⟩=>[(6,[.data (ints b.lo),.data (ints b.hi),.data (.sl (b.modes.map ints))]),(15,[.data (u8s cu.b),.data (i64 cu.i),.data (i64 cu.h)])]) (fun⟨b,out,cu,k⟩=>[(26,53,out.map Lin.av,0)]) (fun⟨b,out,cu,k⟩=>k) ⟨aT p,[],c1,(2+n).toNat⟩ ?_ ?_ ?_
 rotate_left
 ·(repeat' ((conv=>whnf)<;>(first|exact trivial|exact rfl|with_reducible refine And.intro ?_ ?_)))<;>((conv=>whnf)<;>(exact congrArg (AV.int .i64) (by omega)))
 rotate_left
 ·exact⟨hX,lV hs.ok,fB.refl _ _,h1,Right.nil p,by simp;omega⟩
 rintro⟨b,out,cu,k⟩ ⟨hX,hf,hi,hcu,hr,hn⟩
 cases k with
 |zero=>
  rw [zw] at hX
  have q1:out=xs:=congrArg Prod.fst hX
  have q2:cu=cx:=congrArg Prod.snd hX
  subst q1 q2
  have hrt:=hX1
  obtain⟨m,c2,e2,h2,m0,m1⟩:=ak hcu 3
  have m1:=m1 (by decide)
  have D2:=aP e2 hcu (by decide)
  rw [e2] at hR
  dsimp only at hR
  have hrn:=fun j=>Db hs.ok h2 hr j
  (repeat' ((conv=>whnf);first|with_reducible refine Br.no (decide_eq_false (by omega)) ?_|(exfalso;omega)|refine gA ?_|(refine gB ?_ ?_<;>intro h)|refine gP ?_|refine gV ?_|refine gC (D2) ?_|intro _))<;>try (conv=>whnf)
  refine aB [3,5] [3] [777000000000001] ?_
  (conv=>whnf)
  refine aA.mk ((Nat)) (fun j=>((j:Int)≤m)) (fun j=>[(12,.data (i64 (m - j))),(7,.own 777000000000001 0)]) (fun j=>[(15,[.data (u8s (itN (cK p) j out c2).2.b),.data (i64 (itN (cK p) j out c2).2.i),.data (i64 (itN (cK p) j out c2).2.h)])]) (fun j=>[(777000000000001,53,(itN (cK p) j out c2).1.map Lin.av,0)]) (fun j=>m.toNat - j) (0) ?_ ?_ ?_
  rotate_left
  ·(repeat' ((conv=>whnf)<;>(first|exact trivial|exact rfl|with_reducible refine And.intro ?_ ?_)))<;>((conv=>whnf)<;>(exact congrArg (AV.int .i64) (by omega)))
  rotate_left
  ·omega
  rintro j hj
  obtain⟨n1,n2,n3⟩:=hrn j
  by_cases hlt:(j:Int) < m
  ·have e3:itN (cK p) (j+1) out c2=FI p (itN (cK p) j out c2):=rfl
   generalize hq:itN (cK p) j out c2=q at n1 n2 n3 e3 ⊢
   obtain⟨l,cu⟩:=q
   dsimp only at n1 n2 n3 e3 ⊢
   have BN:=FE p hs.ok l (by omega) (fun x hx=>by have:=Fu (n1.clauses x hx);omega) cu n3
   unfold FI at e3
   dsimp only at e3
   generalize iU p l cu=y at BN e3
   obtain⟨y,cv⟩:=y
   dsimp only at BN e3
   have BK:=yT p l y hpf
   by_cases hy:aM p l y=0
   ·rw [if_pos hy] at e3
    (repeat' ((conv=>whnf);first|refine VC.mk (zC _) ?_|with_reducible refine Br.yes (decide_eq_true hy) ?_|refine gA ?_|(refine gB ?_ ?_<;>intro h)|refine gP ?_|refine gV ?_|refine gC (BN) ?_|refine gC (BK) ?_|intro _))<;>try (conv=>whnf)
    all_goals first
     |(exfalso;omega)
     |skip
    refine nw (j+1) ?_ ?_
    ·(repeat' ((conv=>whnf)<;>(first|exact trivial|exact rfl|with_reducible refine And.intro ?_ ?_)))<;>((conv=>whnf)<;>(first|exact congrArg (AV.int .i64) (by omega)|(simp only [e3];done)|(simp only [e3,List.map_append,List.map_cons,List.map_nil];done)))
    omega
   ·rw [if_neg hy] at e3
    (repeat' ((conv=>whnf);first|refine VC.mk (zC _) ?_|with_reducible refine Br.no (decide_eq_false hy) ?_|refine gA ?_|(refine gB ?_ ?_<;>intro h)|refine gP ?_|refine gV ?_|refine gC (BN) ?_|refine gC (BK) ?_|intro _))<;>try (conv=>whnf)
    all_goals first
     |(exfalso;omega)
     |skip
    refine nw (j+1) ?_ ?_
    ·(repeat' ((conv=>whnf)<;>(first|exact trivial|exact rfl|with_reducible refine And.intro ?_ ?_)))<;>((conv=>whnf)<;>(first|exact congrArg (AV.int .i64) (by omega)|(simp only [e3];done)))
    omega
  ·have ej:j=m.toNat:=by omega
   subst ej
   rw [hR]
   (repeat' ((conv=>whnf);first|refine gA ?_|(refine gB ?_ ?_<;>intro h)|refine gP ?_|refine gV ?_|intro _))<;>try (conv=>whnf)
   all_goals first
    |(exfalso;omega)
    |exact fv
 |succ k=>
  rw [zx] at hX
  have BF:=Al p b hpf
  cases hfi:bJ p b with
  |some s=>
   rw [hfi] at hX
   dsimp only at hX
   rw [hfi,Xv] at BF
   dsimp only [Option.getD,Option.isSome] at BF
   have BR:=iH b s.lit (fun m hm=>Di hf hm)
   have ho:=Ig hs hi hfi
   have hl:=UF (ahead:=out) hs.ok (by omega) ho.fol
   (repeat' ((conv=>whnf);first|with_reducible refine Br.yes (decide_eq_true (by omega)) ?_|refine gA ?_|(refine gB ?_ ?_<;>intro h)|refine gP ?_|refine gV ?_|refine gC (BF) ?_|refine gC (BR) ?_|intro _))<;>try (conv=>whnf)
   all_goals first
    |(exfalso;omega)
    |skip
   refine nw ⟨restrict b s.lit,out++[⟨1,s.rule,s.clause⟩],cu,k⟩ ?_ ?_
   ·(repeat' ((conv=>whnf)<;>(first|exact trivial|exact rfl|with_reducible refine And.intro ?_ ?_)))<;>((conv=>whnf)<;>(first|exact congrArg (AV.int .i64) (by omega)|(simp only [List.map_append,List.map_cons,List.map_nil];done)|(simp only [List.map_append,List.map_cons,List.map_nil];rfl)))
   exact⟨hX,gu hf _,hi.restrict hf _,hcu,hr.snoc hl,by simp;omega⟩
  |none=>
   rw [hfi] at hX
   dsimp only at hX
   rw [hfi,Xv] at BF
   dsimp only [Option.getD,Option.isSome] at BF
   have BD:=FJ p hs.ok cu hcu
   have hdl:=(wV hs.ok hcu).2
   generalize dS p cu=y at BD hX hdl
   obtain⟨y,cv⟩:=y
   dsimp only at BD hX hdl
   have BR:=iH b y (fun m hm=>Di hf hm)
   have BE:=bZ (restrict b y)
   cases he:aZ (restrict b y) with
   |false=>
    rw [he] at BE
    rw [he,if_neg (by decide)] at hX
    (repeat' ((conv=>whnf);first|with_reducible refine Br.yes (decide_eq_true (by omega)) ?_|refine gA ?_|(refine gB ?_ ?_<;>intro h)|refine gP ?_|refine gV ?_|refine gC (BF) ?_|refine gC (BD) ?_|refine gC (BR) ?_|refine gC (BE) ?_|intro _))<;>try (conv=>whnf)
    all_goals first
     |(exfalso;omega)
     |skip
    refine nw ⟨restrict b y,out,cv,k⟩ ?_ ?_
    ·(repeat' ((conv=>whnf)<;>(first|exact trivial|exact rfl|with_reducible refine And.intro ?_ ?_)))<;>((conv=>whnf)<;>(exact congrArg (AV.int .i64) (by omega)))
    exact⟨hX,gu hf _,hi.restrict hf _,hdl,hr,by omega⟩
   |true=>
    rw [he] at BE
    rw [he,if_pos rfl] at hX
    have q1:out=xs:=congrArg Prod.fst hX
    have q2:cv=cx:=congrArg Prod.snd hX
    subst q1 q2
    have hrt:=hX1
    obtain⟨m,c2,e2,h2,m0,m1⟩:=ak hdl 3
    have m1:=m1 (by decide)
    have D2:=aP e2 hdl (by decide)
    rw [e2] at hR
    dsimp only at hR
    have hrn:=fun j=>Db hs.ok h2 hr j
    (repeat' ((conv=>whnf);first|with_reducible refine Br.yes (decide_eq_true (by omega)) ?_|(exfalso;omega)|refine gA ?_|(refine gB ?_ ?_<;>intro h)|refine gP ?_|refine gV ?_|refine gC (BF) ?_|refine gC (BD) ?_|refine gC (BR) ?_|refine gC (BE) ?_|refine gC (D2) ?_|intro _))<;>try (conv=>whnf)
    refine aB [3,5] [3] [777000000000001] ?_
    (conv=>whnf)
    refine aA.mk ((Nat)) (fun j=>((j:Int)≤m)) (fun j=>[(12,.data (i64 (m - j))),(7,.own 777000000000001 0)]) (fun j=>[(15,[.data (u8s (itN (cK p) j out c2).2.b),.data (i64 (itN (cK p) j out c2).2.i),.data (i64 (itN (cK p) j out c2).2.h)])]) (fun j=>[(777000000000001,53,(itN (cK p) j out c2).1.map Lin.av,0)]) (fun j=>m.toNat - j) (0) ?_ ?_ ?_
    rotate_left
    ·(repeat' ((conv=>whnf)<;>(first|exact trivial|exact rfl|with_reducible refine And.intro ?_ ?_)))<;>((conv=>whnf)<;>(exact congrArg (AV.int .i64) (by omega)))
    rotate_left
    ·omega
    rintro j hj
    obtain⟨n1,n2,n3⟩:=hrn j
    by_cases hlt:(j:Int) < m
    ·have e3:itN (cK p) (j+1) out c2=FI p (itN (cK p) j out c2):=rfl
     generalize hq:itN (cK p) j out c2=q at n1 n2 n3 e3 ⊢
     obtain⟨l,cu⟩:=q
     dsimp only at n1 n2 n3 e3 ⊢
     have BN:=FE p hs.ok l (by omega) (fun x hx=>by have:=Fu (n1.clauses x hx);omega) cu n3
     unfold FI at e3
     dsimp only at e3
     generalize iU p l cu=y at BN e3
     obtain⟨y,cv⟩:=y
     dsimp only at BN e3
     have BK:=yT p l y hpf
     by_cases hy:aM p l y=0
     ·rw [if_pos hy] at e3
      (repeat' ((conv=>whnf);first|refine VC.mk (zC _) ?_|with_reducible refine Br.yes (decide_eq_true hy) ?_|refine gA ?_|(refine gB ?_ ?_<;>intro h)|refine gP ?_|refine gV ?_|refine gC (BN) ?_|refine gC (BK) ?_|intro _))<;>try (conv=>whnf)
      all_goals first
       |(exfalso;omega)
       |skip
      refine nw (j+1) ?_ ?_
      ·(repeat' ((conv=>whnf)<;>(first|exact trivial|exact rfl|with_reducible refine And.intro ?_ ?_)))<;>((conv=>whnf)<;>(first|exact congrArg (AV.int .i64) (by omega)|(simp only [e3];done)|(simp only [e3,List.map_append,List.map_cons,List.map_nil];done)))
      omega
     ·rw [if_neg hy] at e3
      (repeat' ((conv=>whnf);first|refine VC.mk (zC _) ?_|with_reducible refine Br.no (decide_eq_false hy) ?_|refine gA ?_|(refine gB ?_ ?_<;>intro h)|refine gP ?_|refine gV ?_|refine gC (BN) ?_|refine gC (BK) ?_|intro _))<;>try (conv=>whnf)
      all_goals first
       |(exfalso;omega)
       |skip
      refine nw (j+1) ?_ ?_
      ·(repeat' ((conv=>whnf)<;>(first|exact trivial|exact rfl|with_reducible refine And.intro ?_ ?_)))<;>((conv=>whnf)<;>(first|exact congrArg (AV.int .i64) (by omega)|(simp only [e3];done)))
      omega
    ·have ej:j=m.toNat:=by omega
     subst ej
     rw [hR]
     (repeat' ((conv=>whnf);first|refine gA ?_|(refine gB ?_ ?_<;>intro h)|refine gP ?_|refine gV ?_|intro _))<;>try (conv=>whnf)
     all_goals first
      |(exfalso;omega)
      |exact fv
theorem xD (p:Proj) (hp:aF p=true) (code:List Int) (turn:Int) (ht:0≤turn∧turn≤1000):Con 17 [.d (u8s code),.d p.av,.d (i64 turn)] (.d (lits (zq p code turn))):=by
 refine con Tryz.func17 rfl rfl Tryz.call17 rfl fun hwf=>?_
 clear hwf
 have hc:=ou (lI code) (100*turn)
 have BC:=FH p hp _ hc 3 (by decide)
 unfold zq
 generalize jG p 3 (qD (mh code) (100*turn))=q at BC ⊢
 obtain⟨l,c1⟩:=q
 dsimp only at BC ⊢
 (repeat' ((conv=>whnf);first|refine gA ?_|refine Arith.raw ?_|refine gA ?_|(refine gB ?_ ?_<;>intro h)|refine gV ?_|refine gC (pR code) ?_|refine gC (BC) ?_|intro _))<;>try (conv=>whnf)
 exact fv
def PX (p:Proj) (code:List Int):Rul:=(jy p (qD (mh code) 13)).1
theorem Md (p:Proj) (hp:aF p=true) (code:List Int):Con 18 [.d (u8s code),.d p.av] (.d (PX p code).av):=by
 refine con Tryz.func18 rfl rfl Tryz.call18 rfl fun hwf=>?_
 clear hwf
 have hc:=ou (lI code) 13
 have BC:=nX p hp _ hc
 unfold PX
 generalize jy p (qD (mh code) 13)=q at BC ⊢
 obtain⟨l,c1⟩:=q
 dsimp only at BC ⊢
 (repeat' ((conv=>whnf);first|refine gA ?_|refine Arith.raw ?_|refine gA ?_|(refine gB ?_ ?_<;>intro h)|refine gV ?_|refine gC (pR code) ?_|refine gC (BC) ?_|intro _))<;>try (conv=>whnf)
 exact fv
end Go.Proofs.YtefgamefajmdkaaGreat.Abs
namespace Go.Proofs.YtefgamefajmdkaaGreat.Abs
open Go.Proofs
end Go.Proofs.YtefgamefajmdkaaGreat.Abs
