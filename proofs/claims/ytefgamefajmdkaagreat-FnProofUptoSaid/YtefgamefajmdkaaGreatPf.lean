/- The law of proofs, with the contract of the drawn proof as its premise. -/
import Derived.Test.YtefgamefajmdkaaGreatB4
import Derived.Test.YtefgamefajmdkaaGreatC70
import Derived.Test.YtefgamefajmdkaaGreatDr
import Derived.Test.YtefgamefajmdkaaGreatC65
set_option linter.all false
set_option maxRecDepth 20000
set_option maxHeartbeats 0
namespace Go.Proofs.YtefgamefajmdkaaGreat.Abs
open Go.Proofs
theorem Hu (code:List Int):(iC code).fine:=by
 intro a ha
 obtain⟨i,hi,rfl⟩:=List.getElem_of_mem ha
 have h:=((ou code).1.aok i _ (List.getElem?_eq_getElem hi)).1
 simp only [bC,Bool.and_eq_true,tq,within_iff] at h
 have:=h.2.1.1.2.2
 unfold lim;omega
theorem MB {α β:Type} {f:α→List β} {c:Nat}:∀{l:List α},(∀x∈l,(f x).length≤c)→(l.flatMap f).length≤l.length*c
 |[],_=>by simp
 |x::l,h=>by
  rw [List.flatMap_cons,List.length_append,List.length_cons,Nat.succ_mul]
  have:=MB (l:=l) fun y hy=>h y (List.mem_cons_of_mem _ hy)
  have:=h x (List.mem_cons_self ..)
  omega
theorem Kn {p:Proj} (ho:aF p=true) (h3:p.acts.length≤3) {m:Nat} (hm:m≤12):(lM p m).length≤27*2197:=by
 have hL:(lU p.acts).length≤27:=by
  refine Nat.le_trans (BQ fun a ha=>?_) (Nat.le_trans (Nat.pow_le_pow_right (by decide) h3) (by decide))
  obtain⟨j,hj,e⟩:=List.mem_iff_getElem.1 ha
  have:=jo ho hj
  have hg:=fJ (p:=p) hj
  rw [List.getElem?_eq_getElem hj,Option.some.injEq,e] at hg
  rw [hg];exact this.2
 unfold lM
 refine Nat.le_trans (MB (c:=2197) fun ms _=>?_) (Nat.mul_le_mul_right _ hL)
 refine Nat.le_trans (List.length_filter_le _ _) ?_
 rw [List.length_map,sP]
 calc (m+1) ^ p.acts.length≤13 ^ p.acts.length:=Nat.pow_le_pow_left (by omega) _
  _≤13 ^ 3:=Nat.pow_le_pow_right (by decide) h3
theorem SY {p:Proj} {ls:List Lin} (h:Right p ls) {j:Nat} {x:Lin} (hx:ls[j]? =some x):tu p x=true:=by
 have:=h j x hx
 unfold aL at this
 split at this
 ·rename_i h;exact h.2.1
 ·cases this
theorem Rn (l:List Lin):(jP l).length=8:=by
 have:=(BZ l l.length (Nat.le_refl _)).1
 rwa [List.take_length] at this
attribute [local irreducible] iC qw lM aL qR tu bO jP
theorem OQ (code:List Int) (BM:∀(p:Proj),Small p→p.fine→Con 8 [.d (u8s code),.d p.av] (.d (.sl ((qw p code).map Lin.av)))):Con 5 [.d (u8s code)] (.d (.bool true)):=by
 refine con Tryz.func5 rfl rfl Tryz.call5 rfl fun hwf=>?_
 simp only [ARs.wf,AR.wf,AV.wf,AV.wfs,lm,lim] at hwf
 by_cases hbig:((code.map (AV.int .u8)).length:Int) > 1048576
 ·(repeat' ((conv=>whnf);first|with_reducible refine Br.yes (decide_eq_true hbig) ?_|refine gA ?_|(refine gB ?_ ?_<;>intro h)|(refine gI ?_;intro x hx)|(refine gJ ?_;intro j x hj hx)|refine gV ?_|refine gK ?_|intro _))<;>try (conv=>whnf)
  exact fv
 have hbig2:decide (((code.map (AV.int .u8)).length:Int) > 1048576)=false:=decide_eq_false hbig
 have hf:=Hu code
 have hok:=Dk code
 have hs:=Hl code
 have h3:(iC code).acts.length≤3:=by have:=(ou code).1.acts;omega
 have BS:=Km code
 have BM:=BM (iC code) hs hf
 obtain⟨hR,hRl⟩:=KY hs code
 generalize iC code=p at hf hok hs h3 BS BM hR hRl
 generalize qw p code=l at BM hR hRl
 have BC:=KN p l hf
 rw [Gu hR,Yg] at BC
 dsimp only at BC
 have BA:=Ep p hf hok h3 5 (by decide)
 have hS:∀s∈lM p 5,dZ p s=true:=OI
 have hSl:=Kn hok h3 (m:=5) (by decide)
 generalize lM p 5=S at BA hS hSl
 have BP:=cO p hf
 rw [hok] at BP
 have BT:=Hr l (by omega)
 have ht:=Rn l
 generalize jP l=st at BT ht
 (repeat' ((conv=>whnf);first|with_reducible refine Br.no hbig2 ?_|refine gA ?_|(refine gB ?_ ?_<;>intro h)|(refine gI ?_;intro x hx)|(refine gJ ?_;intro j x hj hx)|refine gV ?_|refine gK ?_|refine gC (BS) ?_|refine gC (BM) ?_|refine gC (BC) ?_|refine gC (Ht) ?_|refine gC (BA) ?_|intro _))<;>try (conv=>whnf)
 rotate_left
 ·exact absurd trivial h
 refine aB [3,4,41,42] [3] [] ?_
 (conv=>whnf)
 refine aA.go ((Nat)) (fun i=>(i≤S.length)) (fun i=>[(43,.data (i64 i))]) (fun _=>[]) (fun _=>[]) (fun i=>S.length - i) (0) ?_ ?_
 ·exact Nat.zero_le _
 rintro i hi
 by_cases hil:i < S.length
 ·obtain⟨s,hsi⟩:∃x,S[i]? =some x:=⟨S[i]'hil,by simp⟩
  have hso:=hS s (List.mem_of_getElem? hsi)
  have hh:=SS hR hso
  (repeat' ((conv=>whnf);first|with_reducible refine Idx.got hsi rfl ?_|(exfalso;omega)|refine gA ?_|(refine gB ?_ ?_<;>intro h)|(refine gI ?_;intro x hx)|(refine gJ ?_;intro j x hj hx)|refine gV ?_|refine gK ?_|intro _))<;>try (conv=>whnf)
  refine aB [3,4,8,41,42,43,47,48] [3,8] [] ?_
  (conv=>whnf)
  refine aA.go ((Nat)) (fun j=>(j≤l.length)) (fun j=>[(49,.data (i64 j))]) (fun _=>[]) (fun _=>[]) (fun j=>l.length - j) (0) ?_ ?_
  ·exact Nat.zero_le _
  rintro j hj
  by_cases hjl:j < l.length
  ·obtain⟨x,hx⟩:∃x,l[j]? =some x:=⟨l[j]'hjl,by simp⟩
   have BH:=Fw x.clause s
   rw [(hh x.clause (List.mem_map.2 ⟨x,List.mem_of_getElem? hx,rfl⟩)).2] at BH
   have BL:=Gb p x hf
   rw [SY hR hx] at BL
   (repeat' ((conv=>whnf);first|with_reducible refine Idx.got hx rfl ?_|(exfalso;omega)|refine gA ?_|(refine gB ?_ ?_<;>intro h)|(refine gI ?_;intro x hx)|(refine gJ ?_;intro j x hj hx)|refine gV ?_|refine gK ?_|refine gC (BH) ?_|refine gC (BL) ?_|intro _))<;>try (conv=>whnf)
   refine nx (j+1) ?_
   exact (by omega:j+1≤l.length)
  ·(repeat' ((conv=>whnf);first|(exfalso;omega)|refine gA ?_|(refine gB ?_ ?_<;>intro h)|(refine gI ?_;intro x hx)|(refine gJ ?_;intro j x hj hx)|refine gV ?_|refine gK ?_|intro _))<;>try (conv=>whnf)
   refine nx (i+1) ?_
   exact (by omega:i+1≤S.length)
 (repeat' ((conv=>whnf);first|(exfalso;omega)|refine gA ?_|(refine gB ?_ ?_<;>intro h)|(refine gI ?_;intro x hx)|(refine gJ ?_;intro j x hj hx)|refine gV ?_|refine gK ?_|intro _))<;>try (conv=>whnf)
 refine aB [3,4,66,67] [3] [] ?_
 (conv=>whnf)
 refine aA.go ((Nat)) (fun k=>(k≤l.length)) (fun k=>[(68,.data (i64 k))]) (fun _=>[]) (fun _=>[]) (fun k=>l.length - k) (0) ?_ ?_
 ·exact Nat.zero_le _
 rintro k hk
 by_cases hkl:k < l.length
 ·obtain⟨x,hx⟩:∃x,l[k]? =some x:=⟨l[k]'hkl,by simp⟩
  have BK:=xW p (l.take k) x hf
  rw [hR k x hx,List.map_take] at BK
  have hc:jw (l.map Lin.av) 0 (k:Int)=(l.map Lin.av).take k:=by unfold jw;simp
  rw [← hc] at BK
  (repeat' ((conv=>whnf);first|with_reducible refine Idx.got hx rfl ?_|(exfalso;omega)|refine gA ?_|(refine gB ?_ ?_<;>intro h)|(refine gI ?_;intro x hx)|(refine gJ ?_;intro j x hj hx)|refine gV ?_|refine gK ?_|refine gC (BK) ?_|intro _))<;>try (conv=>whnf)
  refine nx (k+1) ?_
  exact (by omega:k+1≤l.length)
 (repeat' ((conv=>whnf);first|(exfalso;omega)|refine gA ?_|(refine gB ?_ ?_<;>intro h)|(refine gI ?_;intro x hx)|(refine gJ ?_;intro j x hj hx)|refine gV ?_|refine gK ?_|refine gC (BP) ?_|refine gC (BT) ?_|intro _))<;>try (conv=>whnf)
 refine⟨?_,rfl,trivial⟩
 rw [decide_eq_true (by rw [List.length_map];omega)]
end Go.Proofs.YtefgamefajmdkaaGreat.Abs
namespace Go.Proofs.YtefgamefajmdkaaGreat.Abs
open Go.Proofs
attribute [local irreducible] below bG aL kV
theorem qz (p:Proj) (hp:aF p=true) (c:Cur) (hc:c.ok):Con 62 [.bx c.cells,.d p.av] (RDr (.d (jW p c).1.av) (jW p c).2):=by
 refine con Tryz.func62 rfl rfl Tryz.call62 rfl fun hwf=>?_
 clear hwf
 have hh:=kS hp
 have hr:p.bg.length≤3∧p.aX.length≤2∧p.links.length≤12:=by
  simp only [aF,nE,Bool.and_eq_true,Bool.not_eq_true',decide_eq_false_iff_not] at hp
  omega
 obtain⟨k,c1,e1,h1,k0,k1⟩:=ak hc 7
 have k1:=k1 (by decide)
 have D1:=aT e1 hc (by decide)
 obtain⟨df,cd,ed,hd,df0,df1⟩:=ak h1 (max (p.acts.length:Int) 1)
 have DD:=aT ed h1 (by omega)
 have hm1:((p.acts.map aG.av).length:Int)=p.acts.length:=by rw [List.length_map]
 have hm2:((p.bg.map eY.av).length:Int)=p.bg.length:=by rw [List.length_map]
 have hm3:((p.links.map Link.av).length:Int)=p.links.length:=by rw [List.length_map]
 have hm4:((p.aX.map i64).length:Int)=p.aX.length:=by rw [List.length_map]
 have BM:=mO (p.acts.length:Int) 1
 rw [← hm1] at DD BM
 obtain⟨R,hR⟩:∃R,R=jW p c:=⟨_,rfl⟩
 rw [← hR]
 unfold jW at hR
 rw [e1] at hR
 dsimp only at hR
 rw [ed] at hR
 dsimp only at hR
 by_cases q0:k=0
 ·rw [if_pos q0] at hR
  by_cases hn:0 < p.links.length
  ·rw [if_pos hn] at hR
   obtain⟨x,c2,e2,h2,x0,x1⟩:=ak h1 p.links.length
   have D2:=aT e2 h1 (by omega)
   rw [← hm3] at D2
   rw [e2] at hR
   subst hR
   (repeat' ((conv=>whnf);first|with_reducible refine Br.yes (decide_eq_true (by omega)) ?_|with_reducible refine Br.no (decide_eq_false (by omega)) ?_|refine gA ?_|(refine gB ?_ ?_<;>intro h)|refine gV ?_|refine gC (D1) ?_|refine gC (D2) ?_|intro _))<;>try (conv=>whnf)
   all_goals first
    |(exfalso;omega)
    |exact fv
  ·rw [if_neg hn] at hR
   subst hR
   (repeat' ((conv=>whnf);first|with_reducible refine Br.yes (decide_eq_true (by omega)) ?_|with_reducible refine Br.no (decide_eq_false (by omega)) ?_|refine gA ?_|(refine gB ?_ ?_<;>intro h)|refine gV ?_|refine gC (D1) ?_|refine gC (DD) ?_|refine gC (BM) ?_|intro _))<;>try (conv=>whnf)
   all_goals first
    |(exfalso;omega)
    |exact fv
 rw [if_neg q0] at hR
 by_cases q1:k=1
 ·rw [if_pos q1] at hR
  by_cases hn:0 < p.aX.length
  ·rw [if_pos hn] at hR
   obtain⟨x,c2,e2,h2,x0,x1⟩:=ak h1 p.aX.length
   have D2:=aT e2 h1 (by omega)
   rw [← hm4] at D2
   rw [e2] at hR
   subst hR
   (repeat' ((conv=>whnf);first|with_reducible refine Br.yes (decide_eq_true (by omega)) ?_|with_reducible refine Br.no (decide_eq_false (by omega)) ?_|refine gA ?_|(refine gB ?_ ?_<;>intro h)|refine gV ?_|refine gC (D1) ?_|refine gC (D2) ?_|intro _))<;>try (conv=>whnf)
   all_goals first
    |(exfalso;omega)
    |exact fv
  ·rw [if_neg hn] at hR
   subst hR
   (repeat' ((conv=>whnf);first|with_reducible refine Br.yes (decide_eq_true (by omega)) ?_|with_reducible refine Br.no (decide_eq_false (by omega)) ?_|refine gA ?_|(refine gB ?_ ?_<;>intro h)|refine gV ?_|refine gC (D1) ?_|refine gC (DD) ?_|refine gC (BM) ?_|intro _))<;>try (conv=>whnf)
   all_goals first
    |(exfalso;omega)
    |exact fv
 rw [if_neg q1] at hR
 by_cases q2:k=2∨k=3
 ·rw [if_pos q2] at hR
  obtain⟨x,c2,e2,h2,x0,x1⟩:=ak h1 8
  obtain⟨y,c3,e3,h3,y0,y1⟩:=ak h2 8
  have x1:=x1 (by decide)
  have y1:=y1 (by decide)
  obtain⟨a,c4,e4,h4,a0,a1⟩:=ak h3 ((p.bg.length:Int)+y / 7)
  have a1:=a1
  obtain⟨z,c5,e5,h5,z0,z1⟩:=ak h4 6
  have z1:=z1 (by decide)
  have D2:=aT e2 h1 (by decide)
  have D3:=aT e3 h2 (by decide)
  have D4:=aT e4 h3 (by omega)
  have D5:=aT e5 h4 (by decide)
  have hy:y.tdiv 7=y / 7:=Int.tdiv_eq_ediv_of_nonneg y0
  rw [← hm2, ← hy] at D4
  simp only [e2,e3,e4,e5] at hR
  subst hR
  (repeat' ((conv=>whnf);first|with_reducible refine Br.yes (decide_eq_true (by omega)) ?_|with_reducible refine Br.no (decide_eq_false (by omega)) ?_|refine gA ?_|(refine gB ?_ ?_<;>intro h)|refine gV ?_|refine gC (D1) ?_|refine gC (D2) ?_|refine gC (D3) ?_|refine gC (D4) ?_|refine gC (D5) ?_|intro _))<;>try (conv=>whnf)
  all_goals first
   |(exfalso;omega)
   |exact fv
 rw [if_neg q2] at hR
 by_cases q4:k=4
 ·rw [if_pos q4] at hR
  by_cases hn:1 < (p.acts.length:Int)
  ·rw [if_pos hn] at hR
   obtain⟨b,c2,e2,h2,b0,b1⟩:=ak h1 ((p.acts.length:Int) - 1)
   have b1:=b1 (by omega)
   obtain⟨a,c3,e3,h3,a0,a1⟩:=ak h2 ((p.bg.length:Int)+1)
   obtain⟨z,c4,e4,h4,z0,z1⟩:=ak h3 ((p.acts.length:Int) - 1 - b)
   have z1:=z1 (by omega)
   have D2:=aT e2 h1 (by omega)
   have D3:=aT e3 h2 (by omega)
   have D4:=aT e4 h3 (by omega)
   rw [← hm1] at D2 D4
   rw [← hm2] at D3
   simp only [e2,e3,e4] at hR
   subst hR
   (repeat' ((conv=>whnf);first|with_reducible refine Br.yes (decide_eq_true (by omega)) ?_|with_reducible refine Br.no (decide_eq_false (by omega)) ?_|refine gA ?_|(refine gB ?_ ?_<;>intro h)|refine gV ?_|refine gC (D1) ?_|refine gC (D2) ?_|refine gC (D3) ?_|refine gC (D4) ?_|intro _))<;>try (conv=>whnf)
   all_goals first
    |(exfalso;omega)
    |exact fv
  ·rw [if_neg hn] at hR
   subst hR
   (repeat' ((conv=>whnf);first|with_reducible refine Br.yes (decide_eq_true (by omega)) ?_|with_reducible refine Br.no (decide_eq_false (by omega)) ?_|refine gA ?_|(refine gB ?_ ?_<;>intro h)|refine gV ?_|refine gC (D1) ?_|refine gC (DD) ?_|refine gC (BM) ?_|intro _))<;>try (conv=>whnf)
   all_goals first
    |(exfalso;omega)
    |exact fv
 rw [if_neg q4] at hR
 by_cases q5:k=5
 ·rw [if_pos q5] at hR
  obtain⟨y,c2,e2,h2,y0,y1⟩:=ak h1 8
  have y1:=y1 (by decide)
  obtain⟨a,c3,e3,h3,a0,a1⟩:=ak h2 ((p.bg.length:Int)+y / 7)
  obtain⟨z,c4,e4,h4,z0,z1⟩:=ak h3 12
  have D2:=aT e2 h1 (by decide)
  have D3:=aT e3 h2 (by omega)
  have D4:=aT e4 h3 (by decide)
  have hy:y.tdiv 7=y / 7:=Int.tdiv_eq_ediv_of_nonneg y0
  rw [← hm2, ← hy] at D3
  simp only [e2,e3,e4] at hR
  subst hR
  (repeat' ((conv=>whnf);first|with_reducible refine Br.yes (decide_eq_true (by omega)) ?_|with_reducible refine Br.no (decide_eq_false (by omega)) ?_|refine gA ?_|(refine gB ?_ ?_<;>intro h)|refine gV ?_|refine gC (D1) ?_|refine gC (D2) ?_|refine gC (D3) ?_|refine gC (D4) ?_|intro _))<;>try (conv=>whnf)
  all_goals first
   |(exfalso;omega)
   |exact fv
 ·rw [if_neg q5] at hR
  subst hR
  (repeat' ((conv=>whnf);first|with_reducible refine Br.yes (decide_eq_true (by omega)) ?_|with_reducible refine Br.no (decide_eq_false (by omega)) ?_|refine gA ?_|(refine gB ?_ ?_<;>intro h)|refine gV ?_|refine gC (D1) ?_|refine gC (DD) ?_|refine gC (BM) ?_|intro _))<;>try (conv=>whnf)
  all_goals first
   |(exfalso;omega)
   |exact fv
theorem Ko {l:List Lit} {k:Nat} {x y:Lit} (hx:l[k]? =some x):fV (l.take (k+1)) y=fV (l.take k) y++(if dA x y=true then [] else [x]):=by
 obtain⟨hk,rfl⟩:=List.getElem?_eq_some_iff.1 hx
 unfold fV
 rw [List.take_succ_eq_append_getElem hk,List.filter_append]
 congr 1
 cases h:dA l[k] y<;>simp [h]
theorem Ub (x l:Lit):(decide (x.kind=l.kind)&&(decide (x.act=l.act)&&(decide (x.val=l.val)&&true)))=dA x l:=by
 simp only [dA,Bool.and_true]
theorem OT (a b:List Lit) (l:Lit) (ha:a.length≤1000) (hb:b.length≤1000):Con 110 [.old (lits a),.old (lits b),.d l.av] (.d (lits (resolve a b l))):=by
 refine con Tryz.func110 rfl rfl Tryz.call110 rfl fun hwf=>?_
 simp only [ARs.wf,AR.wf,AV.wf,AV.wfs,lm,lim] at hwf
 have hl:∀(m:List Lit) (y:Lit) (k:Nat),(fV (m.take k) y).length≤k:=fun m y k=>by
  unfold fV
  have h1:=List.length_filter_le (fun z=> !dA z y) (m.take k)
  have h2:(m.take k).length≤k:=by rw [List.length_take];omega
  omega
 (repeat' ((conv=>whnf);first|refine gA ?_|(refine gB ?_ ?_<;>intro h)|(refine gI ?_;intro x hx)|(refine gJ ?_;intro j x hj hx)|refine gP ?_|refine gV ?_|intro _))<;>try (conv=>whnf)
 refine aB [1,5,13,14] [5] [12] ?_
 (conv=>whnf)
 refine aA.go ((Nat)) (fun k=>(k≤a.length)) (fun k=>[(15,.data (i64 k)),(7,.own 12 0)]) (fun _=>[]) (fun k=>[(12,82,(fV (a.take k) l).map Lit.av,0)]) (fun k=>a.length - k) (0) ?_ ?_
 ·exact Nat.zero_le _
 rintro k hk
 by_cases hlt:k < a.length
 ·obtain⟨x,hx⟩:∃x,a[k]? =some x:=⟨a[k]'hlt,by simp⟩
  have hs:=Ko (y:=l) hx
  have hn:=Ub x l
  have hlk:=hl a l k
  generalize fV (a.take k) l=o at hs hlk ⊢
  cases hc:dA x l with
  |true=>
   rw [hc,if_pos rfl,List.append_nil] at hs
   rw [hc] at hn
   (repeat' ((conv=>whnf);first|with_reducible refine Idx.got hx rfl ?_|with_reducible refine Br.yes hn ?_|refine gA ?_|(refine gB ?_ ?_<;>intro h)|(refine gI ?_;intro x hx)|(refine gJ ?_;intro j x hj hx)|refine gP ?_|refine gV ?_|intro _))<;>try (conv=>whnf)
   all_goals first
    |(exfalso;omega)
    |skip
   refine nw (k+1) ?_ ?_
   ·(repeat' ((conv=>whnf)<;>(first|exact trivial|exact rfl|with_reducible refine And.intro ?_ ?_)))<;>((conv=>whnf)<;>((simp only [hs];done)))
   omega
  |false=>
   rw [hc,if_neg (by decide)] at hs
   rw [hc] at hn
   (repeat' ((conv=>whnf);first|with_reducible refine Idx.got hx rfl ?_|with_reducible refine Br.no hn ?_|refine gA ?_|(refine gB ?_ ?_<;>intro h)|(refine gI ?_;intro x hx)|(refine gJ ?_;intro j x hj hx)|refine gP ?_|refine gV ?_|intro _))<;>try (conv=>whnf)
   all_goals first
    |(exfalso;omega)
    |skip
   refine nw (k+1) ?_ ?_
   ·(repeat' ((conv=>whnf)<;>(first|exact trivial|exact rfl|with_reducible refine And.intro ?_ ?_)))<;>((conv=>whnf)<;>((simp only [hs,List.map_append,List.map_cons,List.map_nil];done)))
   omega
 ·obtain rfl:k=a.length:=by omega
  rw [List.take_length]
  have hla:=hl a l a.length
  rw [List.take_length] at hla
  generalize hA:fV a l=A at hla
  (repeat' ((conv=>whnf);first|(exfalso;omega)|refine gA ?_|(refine gB ?_ ?_<;>intro h)|(refine gI ?_;intro x hx)|(refine gJ ?_;intro j x hj hx)|refine gP ?_|refine gV ?_|intro _))<;>try (conv=>whnf)
  refine aB [5,27,28] [5] [12] ?_
  (conv=>whnf)
  refine aA.mk ((Nat)) (fun k=>(k≤b.length)) (fun k=>[(29,.data (i64 k)),(7,.own 12 0)]) (fun _=>[]) (fun k=>[(12,82,(A++fV (b.take k) (negate l)).map Lit.av,0)]) (fun k=>b.length - k) (0) ?_ ?_ ?_
  rotate_left
  ·(repeat' ((conv=>whnf)<;>(first|exact trivial|exact rfl|with_reducible refine And.intro ?_ ?_)))<;>((conv=>whnf)<;>((simp [fV];done)))
  rotate_left
  ·exact Nat.zero_le _
  rintro k hk
  by_cases hlt:k < b.length
  ·obtain⟨x,hx⟩:∃x,b[k]? =some x:=⟨b[k]'hlt,by simp⟩
   have hs:=Ko (y:=negate l) hx
   have hn:=Ub x (negate l)
   have hlk:=hl b (negate l) k
   have hlo:(A++fV (b.take k) (negate l)).length≤a.length+k:=by rw [List.length_append];omega
   have BN:=oO l
   generalize fV (b.take k) (negate l)=o at hs hlo ⊢
   cases hc:dA x (negate l) with
   |true=>
    rw [hc,if_pos rfl,List.append_nil] at hs
    rw [hc] at hn
    (repeat' ((conv=>whnf);first|with_reducible refine Idx.got hx rfl ?_|with_reducible refine Br.yes hn ?_|refine gA ?_|(refine gB ?_ ?_<;>intro h)|(refine gI ?_;intro x hx)|(refine gJ ?_;intro j x hj hx)|refine gP ?_|refine gV ?_|refine gC (BN) ?_|intro _))<;>try (conv=>whnf)
    all_goals first
     |(exfalso;omega)
     |skip
    refine nw (k+1) ?_ ?_
    ·(repeat' ((conv=>whnf)<;>(first|exact trivial|exact rfl|with_reducible refine And.intro ?_ ?_)))<;>((conv=>whnf)<;>((simp only [hs];done)))
    omega
   |false=>
    rw [hc,if_neg (by decide)] at hs
    rw [hc] at hn
    (repeat' ((conv=>whnf);first|with_reducible refine Idx.got hx rfl ?_|with_reducible refine Br.no hn ?_|refine gA ?_|(refine gB ?_ ?_<;>intro h)|(refine gI ?_;intro x hx)|(refine gJ ?_;intro j x hj hx)|refine gP ?_|refine gV ?_|refine gC (BN) ?_|intro _))<;>try (conv=>whnf)
    all_goals first
     |(exfalso;omega)
     |skip
    refine nw (k+1) ?_ ?_
    ·(repeat' ((conv=>whnf)<;>(first|exact trivial|exact rfl|with_reducible refine And.intro ?_ ?_)))<;>((conv=>whnf)<;>((simp only [hs,List.map_append,List.map_cons,List.map_nil,List.append_assoc];done)))
    omega
  ·obtain rfl:k=b.length:=by omega
   rw [List.take_length]
   unfold resolve
   rw [hA]
   (repeat' ((conv=>whnf);first|(exfalso;omega)|refine gA ?_|(refine gB ?_ ?_<;>intro h)|(refine gI ?_;intro x hx)|(refine gJ ?_;intro j x hj hx)|refine gP ?_|refine gV ?_|refine gC (nL (A++fV b (negate l))) ?_|intro _))<;>try (conv=>whnf)
   exact fv
theorem Ew (p:Proj) (hp:aF p=true) (ls:List Lin) (hls:ls.length≤200) (hcl:∀x∈ls,x.clause.length≤200) (c:Cur) (hc:c.ok):Con 40 [.bx c.cells,.d p.av,.old (.sl (ls.map Lin.av))] (RDr (.d (iK p ls c).1.av) (iK p ls c).2):=by
 refine con Tryz.func40 rfl rfl Tryz.call40 rfl fun hwf=>?_
 clear hwf
 have BC:=OU p hp c hc 3 (by decide)
 have hcc:=yE hp hc 3
 have hml:((ls.map Lin.av).length:Int)=ls.length:=by rw [List.length_map]
 obtain⟨R,hR⟩:∃R,R=iK p ls c:=⟨_,rfl⟩
 rw [← hR]
 unfold iK wz at hR
 generalize kV p 3 c=q at BC hcc hR
 obtain⟨cl,c1⟩:=q
 dsimp only at BC hcc hR
 have fin:∀(y:List Lit) (cy:Cur),cy.ok→∃(o:Int) (co:Cur),below cy 5=(o,co)∧co.ok∧Con 90 [.bx cy.cells,.d (i64 5)] (RDr (.d (.bool (decide (o=0)))) co):=fun y cy hy=>by
  obtain⟨o,co,f1,f2,_,_⟩:=ak hy 5
  exact⟨o,co,f1,f2,qy f1 hy (by decide)⟩
 by_cases hn:1 < ls.length
 ·rw [if_pos hn] at hR
  obtain⟨o,c2,e2,h2,o0,o1⟩:=ak hcc 2
  have D2:=qy e2 hcc (by decide)
  rw [e2] at hR
  dsimp only at hR
  by_cases ho:o=0
  ·rw [if_pos ho] at hR
   obtain⟨i,c3,e3,h3,i0,i1⟩:=ak h2 ls.length
   obtain⟨j,c4,e4,h4,j0,j1⟩:=ak h3 ls.length
   have i1:=i1 (by omega)
   have j1:=j1 (by omega)
   have D3:=aT e3 h2 (by omega)
   have D4:=aT e4 h3 (by omega)
   rw [← hml] at D3 D4
   rw [e3] at hR
   dsimp only at hR
   rw [e4] at hR
   dsimp only at hR
   obtain⟨x,hx⟩:∃x,ls[i.toNat]? =some x:=⟨ls[i.toNat]'(by omega),by simp⟩
   obtain⟨y,hy⟩:∃y,ls[j.toNat]? =some y:=⟨ls[j.toNat]'(by omega),by simp⟩
   have hxc:=hcl x (List.mem_of_getElem? hx)
   have hyc:=hcl y (List.mem_of_getElem? hy)
   rw [getD_some hx,getD_some hy] at hR
   have hxi:(ls.map Lin.av)[i.toNat]? =some x.av:=by rw [List.getElem?_map,hx];rfl
   have hyj:(ls.map Lin.av)[j.toNat]? =some y.av:=by rw [List.getElem?_map,hy];rfl
   have ei:i=((i.toNat:Nat):Int):=by omega
   have ej:j=((j.toNat:Nat):Int):=by omega
   have BN:Con 109 [.d (.sl (([]++x.clause.map Lit.av)++y.clause.map Lit.av))] (.d (lits (bW (x.clause++y.clause)))):=by
    have h:=nL (x.clause++y.clause)
    rw [lits,List.map_append] at h
    exact h
   unfold TV at hR
   by_cases hx0:0 < x.clause.length
   ·rw [if_pos hx0] at hR
    obtain⟨k,c5,e5,h5,k0,k1⟩:=ak h4 x.clause.length
    have k1:=k1 (by omega)
    have D5:=aT e5 h4 (by omega)
    have hmc:((x.clause.map Lit.av).length:Int)=x.clause.length:=by rw [List.length_map]
    rw [← hmc] at D5
    rw [e5] at hR
    dsimp only at hR
    obtain⟨z,hz⟩:∃z,x.clause[k.toNat]? =some z:=⟨x.clause[k.toNat]'(by omega),by simp⟩
    rw [getD_some hz] at hR
    have hzk:(x.clause.map Lit.av)[k.toNat]? =some z.av:=by rw [List.getElem?_map,hz];rfl
    have ek:k=((k.toNat:Nat):Int):=by omega
    have BV:=OT x.clause y.clause z (by omega) (by omega)
    generalize resolve x.clause y.clause z=w at BV hR
    obtain⟨t,c6,f1,f2,D6⟩:=fin w c5 h5
    rw [f1] at hR
    dsimp only at hR
    by_cases ht:t=0
    ·rw [if_pos ht] at hR
     have BR:=qz p hp c6 f2
     generalize jW p c6=rr at BR hR
     obtain⟨rr,c7⟩:=rr
     subst hR
     (repeat' ((conv=>whnf);first|with_reducible refine Br.yes (decide_eq_true ho) ?_|with_reducible refine Br.yes (decide_eq_true ht) ?_|with_reducible refine Br.yes (decide_eq_true (by omega)) ?_|with_reducible refine Br.no (decide_eq_false (by omega)) ?_|refine Idx.Fx hxi ei ?_|refine Idx.Fx hyj ej ?_|refine Idx.Fx hzk ek ?_|refine gA ?_|(refine gB ?_ ?_<;>intro h)|(refine gI ?_;intro x hx)|(refine gJ ?_;intro j x hj hx)|refine gP ?_|refine gC (BC) ?_|refine gC (D2) ?_|refine gC (D3) ?_|refine gC (D4) ?_|refine gC (D5) ?_|refine gC (BN) ?_|refine gC (BV) ?_|refine gC (D6) ?_|refine gC (BR) ?_|intro _))<;>try (conv=>whnf)
     all_goals first
      |(exfalso;omega)
      |exact fv
    ·rw [if_neg ht] at hR
     subst hR
     (repeat' ((conv=>whnf);first|with_reducible refine Br.yes (decide_eq_true ho) ?_|with_reducible refine Br.no (decide_eq_false ht) ?_|with_reducible refine Br.yes (decide_eq_true (by omega)) ?_|with_reducible refine Br.no (decide_eq_false (by omega)) ?_|refine Idx.Fx hxi ei ?_|refine Idx.Fx hyj ej ?_|refine Idx.Fx hzk ek ?_|refine gA ?_|(refine gB ?_ ?_<;>intro h)|(refine gI ?_;intro x hx)|(refine gJ ?_;intro j x hj hx)|refine gP ?_|refine gC (BC) ?_|refine gC (D2) ?_|refine gC (D3) ?_|refine gC (D4) ?_|refine gC (D5) ?_|refine gC (BN) ?_|refine gC (BV) ?_|refine gC (D6) ?_|intro _))<;>try (conv=>whnf)
     all_goals first
      |(exfalso;omega)
      |exact fv
   ·rw [if_neg hx0] at hR
    generalize bW (x.clause++y.clause)=w at BN hR
    obtain⟨t,c6,f1,f2,D6⟩:=fin w c4 h4
    rw [f1] at hR
    dsimp only at hR
    by_cases ht:t=0
    ·rw [if_pos ht] at hR
     have BR:=qz p hp c6 f2
     generalize jW p c6=rr at BR hR
     obtain⟨rr,c7⟩:=rr
     subst hR
     (repeat' ((conv=>whnf);first|with_reducible refine Br.yes (decide_eq_true ho) ?_|with_reducible refine Br.yes (decide_eq_true ht) ?_|with_reducible refine Br.yes (decide_eq_true (by omega)) ?_|with_reducible refine Br.no (decide_eq_false (by omega)) ?_|refine Idx.Fx hxi ei ?_|refine Idx.Fx hyj ej ?_|refine gA ?_|(refine gB ?_ ?_<;>intro h)|(refine gI ?_;intro x hx)|(refine gJ ?_;intro j x hj hx)|refine gP ?_|refine gC (BC) ?_|refine gC (D2) ?_|refine gC (D3) ?_|refine gC (D4) ?_|refine gC (BN) ?_|refine gC (D6) ?_|refine gC (BR) ?_|intro _))<;>try (conv=>whnf)
     all_goals first
      |(exfalso;omega)
      |exact fv
    ·rw [if_neg ht] at hR
     subst hR
     (repeat' ((conv=>whnf);first|with_reducible refine Br.yes (decide_eq_true ho) ?_|with_reducible refine Br.no (decide_eq_false ht) ?_|with_reducible refine Br.yes (decide_eq_true (by omega)) ?_|with_reducible refine Br.no (decide_eq_false (by omega)) ?_|refine Idx.Fx hxi ei ?_|refine Idx.Fx hyj ej ?_|refine gA ?_|(refine gB ?_ ?_<;>intro h)|(refine gI ?_;intro x hx)|(refine gJ ?_;intro j x hj hx)|refine gP ?_|refine gC (BC) ?_|refine gC (D2) ?_|refine gC (D3) ?_|refine gC (D4) ?_|refine gC (BN) ?_|refine gC (D6) ?_|intro _))<;>try (conv=>whnf)
     all_goals first
      |(exfalso;omega)
      |exact fv
  ·rw [if_neg ho] at hR
   obtain⟨t,c6,f1,f2,D6⟩:=fin cl c2 h2
   rw [f1] at hR
   dsimp only at hR
   by_cases ht:t=0
   ·rw [if_pos ht] at hR
    have BR:=qz p hp c6 f2
    generalize jW p c6=rr at BR hR
    obtain⟨rr,c7⟩:=rr
    subst hR
    (repeat' ((conv=>whnf);first|with_reducible refine Br.no (decide_eq_false ho) ?_|with_reducible refine Br.yes (decide_eq_true ht) ?_|with_reducible refine Br.yes (decide_eq_true (by omega)) ?_|with_reducible refine Br.no (decide_eq_false (by omega)) ?_|refine gA ?_|(refine gB ?_ ?_<;>intro h)|(refine gI ?_;intro x hx)|(refine gJ ?_;intro j x hj hx)|refine gP ?_|refine gC (BC) ?_|refine gC (D2) ?_|refine gC (D6) ?_|refine gC (BR) ?_|intro _))<;>try (conv=>whnf)
    all_goals first
     |(exfalso;omega)
     |exact fv
   ·rw [if_neg ht] at hR
    subst hR
    (repeat' ((conv=>whnf);first|with_reducible refine Br.no (decide_eq_false ho) ?_|with_reducible refine Br.no (decide_eq_false ht) ?_|with_reducible refine Br.yes (decide_eq_true (by omega)) ?_|with_reducible refine Br.no (decide_eq_false (by omega)) ?_|refine gA ?_|(refine gB ?_ ?_<;>intro h)|(refine gI ?_;intro x hx)|(refine gJ ?_;intro j x hj hx)|refine gP ?_|refine gC (BC) ?_|refine gC (D2) ?_|refine gC (D6) ?_|intro _))<;>try (conv=>whnf)
    all_goals first
     |(exfalso;omega)
     |exact fv
 ·rw [if_neg hn] at hR
  obtain⟨t,c6,f1,f2,D6⟩:=fin cl c1 hcc
  dsimp only at hR
  rw [f1] at hR
  dsimp only at hR
  by_cases ht:t=0
  ·rw [if_pos ht] at hR
   have BR:=qz p hp c6 f2
   generalize jW p c6=rr at BR hR
   obtain⟨rr,c7⟩:=rr
   subst hR
   (repeat' ((conv=>whnf);first|with_reducible refine Br.yes (decide_eq_true ht) ?_|with_reducible refine Br.yes (decide_eq_true (by omega)) ?_|with_reducible refine Br.no (decide_eq_false (by omega)) ?_|refine gA ?_|(refine gB ?_ ?_<;>intro h)|(refine gI ?_;intro x hx)|(refine gJ ?_;intro j x hj hx)|refine gP ?_|refine gC (BC) ?_|refine gC (D6) ?_|refine gC (BR) ?_|intro _))<;>try (conv=>whnf)
   all_goals first
    |(exfalso;omega)
    |exact fv
  ·rw [if_neg ht] at hR
   subst hR
   (repeat' ((conv=>whnf);first|with_reducible refine Br.no (decide_eq_false ht) ?_|with_reducible refine Br.yes (decide_eq_true (by omega)) ?_|with_reducible refine Br.no (decide_eq_false (by omega)) ?_|refine gA ?_|(refine gB ?_ ?_<;>intro h)|(refine gI ?_;intro x hx)|(refine gJ ?_;intro j x hj hx)|refine gP ?_|refine gC (BC) ?_|refine gC (D6) ?_|intro _))<;>try (conv=>whnf)
   all_goals first
    |(exfalso;omega)
    |exact fv
end Go.Proofs.YtefgamefajmdkaaGreat.Abs
namespace Go.Proofs.YtefgamefajmdkaaGreat.Abs
open Go.Proofs
attribute [local irreducible] below bG aL dN iK restrict bF gG
def Ey (p:Proj) (q:List Lin×Cur):List Lin×Cur:=(if aL p q.1 (iK p q.1 q.2).1=0 then q.1++[(iK p q.1 q.2).1] else q.1,(iK p q.1 q.2).2)
theorem Uc:∀(a b:List AV),AV.mds false (a++b)=(AV.mds false a&&AV.mds false b)
 |[],b=>by simp [AV.mds]
 |x::a,b=>by simp only [List.cons_append,AV.mds,Uc a b,Bool.and_assoc]
theorem Ro:∀(l:List Lit),AV.mds false (l.map Lit.av)=true
 |[]=>rfl
 |x::l=>by simp only [List.map_cons,AV.mds,Ro l,Bool.and_true];rfl
theorem Rp:∀(l:List Int),AV.mds false (l.map i64)=true
 |[]=>rfl
 |x::l=>by simp only [List.map_cons,AV.mds,Rp l,Bool.and_true];rfl
theorem yI:∀(l:List Lin),AV.mds false (l.map Lin.av)=true
 |[]=>rfl
 |x::l=>by
  simp only [List.map_cons,AV.mds,yI l,Bool.and_true]
  simp only [Lin.av,AV.md,AV.mds,Ro,Rp,lits,ints,Rul.av,Uc,Bool.and_true,Bool.not_false,Bool.and_self]
  try rfl
theorem Kq (p:Proj) (hs:Small p) (hpf:p.fine) (code:List Int):Con 8 [.d (u8s code),.d p.av] (.d (.sl ((qw p code).map Lin.av))):=by
 refine con Tryz.func8 rfl rfl Tryz.call8 rfl fun hwf=>?_
 clear hwf
 have hc:=Jm (uD code) 19
 have BI:=Ca p hs.ok hpf
 obtain⟨R,hR⟩:∃R,qw p code=R:=⟨_,rfl⟩
 rw [hR]
 unfold qw at hR
 dsimp only at hR
 generalize hcc:NQ (tF code) 19=cc at hc hR
 obtain⟨n,c1,e1,h1,n0,n1⟩:=ak hc 5
 have n1:=n1 (by decide)
 have D1:=aT e1 hc (by decide)
 rw [← hcc] at D1
 rw [e1] at hR
 dsimp only at hR
 obtain⟨hX1,hX2,hX3⟩:=mF hs (2+n).toNat (bM p) [] c1 (qp hs.ok) (gX.refl _ _) h1 (Right.nil p) (by simp;omega)
 generalize hX:gG p (2+n).toNat (bM p) [] c1=X at hX1 hX2 hX3 hR
 obtain⟨xs,cx⟩:=X
 dsimp only at hX1 hX2 hX3 hR
 (repeat' ((conv=>whnf);first|refine gA ?_|refine Arith.raw ?_|refine gA ?_|(refine gB ?_ ?_<;>intro h)|refine gP ?_|refine gV ?_|refine gC (GA code) ?_|refine gC (BI) ?_|refine gC (D1) ?_|intro _))<;>try (conv=>whnf)
 refine aB [3,5,6] [3] [26] ?_
 (conv=>whnf)
 refine aA.mk ((Dom)×(List Lin)×(Cur)×(Nat)) (fun⟨b,out,cu,k⟩=>(gG p k b out cu=(xs,cx))∧(aC p b=true)∧(Bu p b)∧(cu.ok)∧(Right p out)∧(out.length+k≤10)) (fun⟨b,out,cu,k⟩=>[(8,.data (i64 (k:Nat))),(7,.own 26 0)]) (fun⟨b,out,cu,k⟩=>[(6,[.data (ints b.lo),.data (ints b.hi),.data (.sl (b.modes.map ints))]),(15,[.data (u8s cu.b),.data (i64 cu.i),.data (i64 cu.h)])]) (fun⟨b,out,cu,k⟩=>[(26,53,out.map Lin.av,0)]) (fun⟨b,out,cu,k⟩=>k) ⟨bM p,[],c1,(2+n).toNat⟩ ?_ ?_ ?_
 rotate_left
 ·(repeat' ((conv=>whnf)<;>(first|exact trivial|exact rfl|with_reducible refine And.intro ?_ ?_)))<;>((conv=>whnf)<;>(exact congrArg (AV.int .i64) (by omega)))
 rotate_left
 ·exact⟨hX,qp hs.ok,gX.refl _ _,h1,Right.nil p,by simp;omega⟩
 rintro⟨b,out,cu,k⟩ ⟨hX,hf,hi,hcu,hr,hn⟩
 cases k with
 |zero=>
  rw [yF] at hX
  have q1:out=xs:=congrArg Prod.fst hX
  have q2:cu=cx:=congrArg Prod.snd hX
  subst q1 q2
  have hrt:=hX1
  obtain⟨m,c2,e2,h2,m0,m1⟩:=ak hcu 3
  have m1:=m1 (by decide)
  have D2:=aT e2 hcu (by decide)
  rw [e2] at hR
  dsimp only at hR
  have hrn:=fun j=>BG hs.ok h2 hr j
  (repeat' ((conv=>whnf);first|with_reducible refine Br.no (decide_eq_false (by omega)) ?_|(exfalso;omega)|refine gA ?_|(refine gB ?_ ?_<;>intro h)|refine gP ?_|refine gV ?_|refine gC (D2) ?_|intro _))<;>try (conv=>whnf)
  refine aB [3,5] [3] [777000000000001] ?_
  (conv=>whnf)
  refine aA.mk ((Nat)) (fun j=>((j:Int)≤m)) (fun j=>[(12,.data (i64 (m - j))),(7,.own 777000000000001 0)]) (fun j=>[(15,[.data (u8s (itN (bX p) j out c2).2.b),.data (i64 (itN (bX p) j out c2).2.i),.data (i64 (itN (bX p) j out c2).2.h)])]) (fun j=>[(777000000000001,53,(itN (bX p) j out c2).1.map Lin.av,0)]) (fun j=>m.toNat - j) (0) ?_ ?_ ?_
  rotate_left
  ·(repeat' ((conv=>whnf)<;>(first|exact trivial|exact rfl|with_reducible refine And.intro ?_ ?_)))<;>((conv=>whnf)<;>(exact congrArg (AV.int .i64) (by omega)))
  rotate_left
  ·omega
  rintro j hj
  obtain⟨n1,n2,n3⟩:=hrn j
  by_cases hlt:(j:Int) < m
  ·have e3:itN (bX p) (j+1) out c2=Ey p (itN (bX p) j out c2):=rfl
   generalize hq:itN (bX p) j out c2=q at n1 n2 n3 e3 ⊢
   obtain⟨l,cu⟩:=q
   dsimp only at n1 n2 n3 e3 ⊢
   have BN:=Ew p hs.ok l (by omega) (fun x hx=>by have:=En (n1.clauses x hx);omega) cu n3
   unfold Ey at e3
   dsimp only at e3
   generalize iK p l cu=y at BN e3
   obtain⟨y,cv⟩:=y
   dsimp only at BN e3
   have BK:=xX p l y hpf
   by_cases hy:aL p l y=0
   ·rw [if_pos hy] at e3
    (repeat' ((conv=>whnf);first|refine VC.mk (yI _) ?_|with_reducible refine Br.yes (decide_eq_true hy) ?_|refine gA ?_|(refine gB ?_ ?_<;>intro h)|refine gP ?_|refine gV ?_|refine gC (BN) ?_|refine gC (BK) ?_|intro _))<;>try (conv=>whnf)
    all_goals first
     |(exfalso;omega)
     |skip
    refine nw (j+1) ?_ ?_
    ·(repeat' ((conv=>whnf)<;>(first|exact trivial|exact rfl|with_reducible refine And.intro ?_ ?_)))<;>((conv=>whnf)<;>(first|exact congrArg (AV.int .i64) (by omega)|(simp only [e3];done)|(simp only [e3,List.map_append,List.map_cons,List.map_nil];done)))
    omega
   ·rw [if_neg hy] at e3
    (repeat' ((conv=>whnf);first|refine VC.mk (yI _) ?_|with_reducible refine Br.no (decide_eq_false hy) ?_|refine gA ?_|(refine gB ?_ ?_<;>intro h)|refine gP ?_|refine gV ?_|refine gC (BN) ?_|refine gC (BK) ?_|intro _))<;>try (conv=>whnf)
    all_goals first
     |(exfalso;omega)
     |skip
    refine nw (j+1) ?_ ?_
    ·(repeat' ((conv=>whnf)<;>(first|exact trivial|exact rfl|with_reducible refine And.intro ?_ ?_)))<;>((conv=>whnf)<;>(first|exact congrArg (AV.int .i64) (by omega)|(simp only [e3];done)))
    omega
  ·have ej:j=m.toNat:=by omega
   subst ej
   rw [hR]
   (repeat' ((conv=>whnf);first|refine gA ?_|(refine gB ?_ ?_<;>intro h)|refine gP ?_|refine gV ?_|intro _))<;>try (conv=>whnf)
   all_goals first
    |(exfalso;omega)
    |exact fv
 |succ k=>
  rw [yG] at hX
  have BF:=zy p b hpf
  cases hfi:bG p b with
  |some s=>
   rw [hfi] at hX
   dsimp only at hX
   rw [hfi,WQ] at BF
   dsimp only [Option.getD,Option.isSome] at BF
   have BR:=ji b s.lit (fun m hm=>Kr hf hm)
   have ho:=Gq hs hi hfi
   have hl:=TU (ahead:=out) hs.ok (by omega) ho.fol
   (repeat' ((conv=>whnf);first|with_reducible refine Br.yes (decide_eq_true (by omega)) ?_|refine gA ?_|(refine gB ?_ ?_<;>intro h)|refine gP ?_|refine gV ?_|refine gC (BF) ?_|refine gC (BR) ?_|intro _))<;>try (conv=>whnf)
   all_goals first
    |(exfalso;omega)
    |skip
   refine nw ⟨restrict b s.lit,out++[⟨1,s.rule,s.clause⟩],cu,k⟩ ?_ ?_
   ·(repeat' ((conv=>whnf)<;>(first|exact trivial|exact rfl|with_reducible refine And.intro ?_ ?_)))<;>((conv=>whnf)<;>(first|exact congrArg (AV.int .i64) (by omega)|(simp only [List.map_append,List.map_cons,List.map_nil];done)|(simp only [List.map_append,List.map_cons,List.map_nil];rfl)))
   exact⟨hX,jm hf _,hi.restrict hf _,hcu,hr.snoc hl,by simp;omega⟩
  |none=>
   rw [hfi] at hX
   dsimp only at hX
   rw [hfi,WQ] at BF
   dsimp only [Option.getD,Option.isSome] at BF
   have BD:=Ez p hs.ok cu hcu
   have hdl:=(wu hs.ok hcu).2
   generalize dN p cu=y at BD hX hdl
   obtain⟨y,cv⟩:=y
   dsimp only at BD hX hdl
   have BR:=ji b y (fun m hm=>Kr hf hm)
   have BE:=dw (restrict b y)
   cases he:bF (restrict b y) with
   |false=>
    rw [he] at BE
    rw [he,if_neg (by decide)] at hX
    (repeat' ((conv=>whnf);first|with_reducible refine Br.yes (decide_eq_true (by omega)) ?_|refine gA ?_|(refine gB ?_ ?_<;>intro h)|refine gP ?_|refine gV ?_|refine gC (BF) ?_|refine gC (BD) ?_|refine gC (BR) ?_|refine gC (BE) ?_|intro _))<;>try (conv=>whnf)
    all_goals first
     |(exfalso;omega)
     |skip
    refine nw ⟨restrict b y,out,cv,k⟩ ?_ ?_
    ·(repeat' ((conv=>whnf)<;>(first|exact trivial|exact rfl|with_reducible refine And.intro ?_ ?_)))<;>((conv=>whnf)<;>(exact congrArg (AV.int .i64) (by omega)))
    exact⟨hX,jm hf _,hi.restrict hf _,hdl,hr,by omega⟩
   |true=>
    rw [he] at BE
    rw [he,if_pos rfl] at hX
    have q1:out=xs:=congrArg Prod.fst hX
    have q2:cv=cx:=congrArg Prod.snd hX
    subst q1 q2
    have hrt:=hX1
    obtain⟨m,c2,e2,h2,m0,m1⟩:=ak hdl 3
    have m1:=m1 (by decide)
    have D2:=aT e2 hdl (by decide)
    rw [e2] at hR
    dsimp only at hR
    have hrn:=fun j=>BG hs.ok h2 hr j
    (repeat' ((conv=>whnf);first|with_reducible refine Br.yes (decide_eq_true (by omega)) ?_|(exfalso;omega)|refine gA ?_|(refine gB ?_ ?_<;>intro h)|refine gP ?_|refine gV ?_|refine gC (BF) ?_|refine gC (BD) ?_|refine gC (BR) ?_|refine gC (BE) ?_|refine gC (D2) ?_|intro _))<;>try (conv=>whnf)
    refine aB [3,5] [3] [777000000000001] ?_
    (conv=>whnf)
    refine aA.mk ((Nat)) (fun j=>((j:Int)≤m)) (fun j=>[(12,.data (i64 (m - j))),(7,.own 777000000000001 0)]) (fun j=>[(15,[.data (u8s (itN (bX p) j out c2).2.b),.data (i64 (itN (bX p) j out c2).2.i),.data (i64 (itN (bX p) j out c2).2.h)])]) (fun j=>[(777000000000001,53,(itN (bX p) j out c2).1.map Lin.av,0)]) (fun j=>m.toNat - j) (0) ?_ ?_ ?_
    rotate_left
    ·(repeat' ((conv=>whnf)<;>(first|exact trivial|exact rfl|with_reducible refine And.intro ?_ ?_)))<;>((conv=>whnf)<;>(exact congrArg (AV.int .i64) (by omega)))
    rotate_left
    ·omega
    rintro j hj
    obtain⟨n1,n2,n3⟩:=hrn j
    by_cases hlt:(j:Int) < m
    ·have e3:itN (bX p) (j+1) out c2=Ey p (itN (bX p) j out c2):=rfl
     generalize hq:itN (bX p) j out c2=q at n1 n2 n3 e3 ⊢
     obtain⟨l,cu⟩:=q
     dsimp only at n1 n2 n3 e3 ⊢
     have BN:=Ew p hs.ok l (by omega) (fun x hx=>by have:=En (n1.clauses x hx);omega) cu n3
     unfold Ey at e3
     dsimp only at e3
     generalize iK p l cu=y at BN e3
     obtain⟨y,cv⟩:=y
     dsimp only at BN e3
     have BK:=xX p l y hpf
     by_cases hy:aL p l y=0
     ·rw [if_pos hy] at e3
      (repeat' ((conv=>whnf);first|refine VC.mk (yI _) ?_|with_reducible refine Br.yes (decide_eq_true hy) ?_|refine gA ?_|(refine gB ?_ ?_<;>intro h)|refine gP ?_|refine gV ?_|refine gC (BN) ?_|refine gC (BK) ?_|intro _))<;>try (conv=>whnf)
      all_goals first
       |(exfalso;omega)
       |skip
      refine nw (j+1) ?_ ?_
      ·(repeat' ((conv=>whnf)<;>(first|exact trivial|exact rfl|with_reducible refine And.intro ?_ ?_)))<;>((conv=>whnf)<;>(first|exact congrArg (AV.int .i64) (by omega)|(simp only [e3];done)|(simp only [e3,List.map_append,List.map_cons,List.map_nil];done)))
      omega
     ·rw [if_neg hy] at e3
      (repeat' ((conv=>whnf);first|refine VC.mk (yI _) ?_|with_reducible refine Br.no (decide_eq_false hy) ?_|refine gA ?_|(refine gB ?_ ?_<;>intro h)|refine gP ?_|refine gV ?_|refine gC (BN) ?_|refine gC (BK) ?_|intro _))<;>try (conv=>whnf)
      all_goals first
       |(exfalso;omega)
       |skip
      refine nw (j+1) ?_ ?_
      ·(repeat' ((conv=>whnf)<;>(first|exact trivial|exact rfl|with_reducible refine And.intro ?_ ?_)))<;>((conv=>whnf)<;>(first|exact congrArg (AV.int .i64) (by omega)|(simp only [e3];done)))
      omega
    ·have ej:j=m.toNat:=by omega
     subst ej
     rw [hR]
     (repeat' ((conv=>whnf);first|refine gA ?_|(refine gB ?_ ?_<;>intro h)|refine gP ?_|refine gV ?_|intro _))<;>try (conv=>whnf)
     all_goals first
      |(exfalso;omega)
      |exact fv
end Go.Proofs.YtefgamefajmdkaaGreat.Abs
namespace Go.Proofs.YtefgamefajmdkaaGreat.Abs
open Go.Proofs
theorem Vj (code:List Int):Con 5 [.d (u8s code)] (.d (.bool true)):=OQ code fun p hs hf=>Kq p hs hf code
end Go.Proofs.YtefgamefajmdkaaGreat.Abs
