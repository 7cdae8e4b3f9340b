/- The law of unit propagation. -/
import Derived.Test.YtefgamefajmdkaaGreatPf
import Derived.Test.YtefgamefajmdkaaGreatC15
set_option linter.all false
set_option maxRecDepth 20000
set_option maxHeartbeats 0
namespace Go.Proofs.YtefgamefajmdkaaGreat.Abs
open Go.Proofs
theorem contains_iff {p:Proj} {b:Dom} {s:aJ} (hf:aC p b=true) (hs:dA p s=true):contains b s=true↔qy b s p.acts.length:=by
 obtain⟨l1,l2,l3⟩:=(eX hf).2
 obtain⟨_,s1,s2⟩:=jE (qK hs)
 rw [Sr,s1]
 constructor
 ·exact fun h=>h.2.2.2.2
 ·exact fun h=>⟨by omega,by omega,by omega,by omega,h⟩
theorem TT {p:Proj} {x b:Dom} (hx:aC p x=true) (hb:aC p b=true) (h:fB x b p.acts.length):kH x b=true:=by
 obtain⟨l1,l2,l3⟩:=(eX hx).2
 obtain⟨k1,k2,k3⟩:=(eX hb).2
 unfold kH
 rw [Bool.and_eq_true,bg]
 refine⟨?_,fun i hi=>?_⟩
 ·unfold uT yE
  rw [List.all_eq_true]
  intro n hn
  simp only [List.mem_cons,List.not_mem_nil,or_false] at hn
  rw [decide_eq_true_eq]
  omega
 have hk:i < p.acts.length:=by omega
 obtain⟨a,u,v,m,g⟩:=dR hx hk
 obtain⟨a',u',v',m',g'⟩:=dR hb hk
 obtain⟨h1,h2,h3⟩:=h i hk
 rw [getD_some g.lo,getD_some g'.lo] at h1
 rw [getD_some g.hi,getD_some g'.hi] at h2
 rw [getD_some g.modes,getD_some g'.modes] at h3
 unfold Rb
 simp only [g.lo,g'.lo,g.hi,g'.hi,g.modes,g'.modes,subset]
 simp
 exact⟨by omega,by omega,h3⟩
theorem Nz {p:Proj} {list:List (List Lit)}:∀(n:Nat) (b:Dom),aC p b=true→gM b < n→
  aC p (nP list n b).1=true∧fB (nP list n b).1 b p.acts.length∧yD list (nP list n b).1= .inl (nP list n b)
 |0,b,_,h=>by omega
 |n+1,b,hf,h=>by
  rw [nP]
  cases hu:yD list b with
  |inl r=>
   have e:r.1=b:=by
    unfold yD at hu
    split at hu
    ·cases hu;rfl
    ·split at hu
     ·cases hu;rfl
     ·split at hu
      ·cases hu;rfl
      ·cases hu
   dsimp only
   rw [e]
   exact⟨hf,fB.refl _ _,hu⟩
  |inr c=>
   dsimp only
   have:aC p c=true∧gM c < gM b∧fB c b p.acts.length:=by
    unfold yD at hu
    split at hu
    ·cases hu
    ·split at hu
     ·cases hu
     ·rename_i l hl
      split at hu
      ·cases hu
      ·rename_i hs
       cases hu
       have hb:=List.find?_some hl
       obtain⟨g1,g2⟩:=yS hf hb hs
       exact⟨g1,g2,qL b _ (tO hf)⟩
   obtain⟨g1,g2,g3⟩:=this
   obtain⟨k1,k2,k3⟩:=Nz n c g1 (by omega)
   exact⟨k1,k2.trans g3,k3⟩
theorem PZ {p:Proj} {list:List (List Lit)} {b:Dom} (hf:aC p b=true):aC p (bX p list b).1=true∧fB (bX p list b).1 b p.acts.length∧bX p list (bX p list b).1=bX p list b:=by
 have e:bX p list b=nP list (gM b+1) b:=by rw [bX,if_pos hf]
 obtain⟨h1,h2,h3⟩:=Nz (p:=p) (list:=list) (gM b+1) b hf (by omega)
 rw [← e] at h1 h2 h3
 refine⟨h1,h2,?_⟩
 generalize bX p list b=r at h1 h2 h3
 rw [bX,if_pos h1,nP,h3]
attribute [local irreducible] dQ nV iL bX contains kH aC Ih
theorem VU (code:List Int):Con 3 [.d (u8s code)] (.d (.bool true)):=by
 refine con Tryz.func3 rfl rfl Tryz.call3 rfl fun hwf=>?_
 simp only [ARs.wf,AR.wf,AV.wf,AV.wfs,lm,lim] at hwf
 by_cases hbig:((code.map (AV.int .u8)).length:Int) > 1048576
 ·(repeat' ((conv=>whnf);first|with_reducible refine Br.yes (decide_eq_true hbig) ?_|refine gA ?_|(refine gB ?_ ?_<;>intro h)|(refine gI ?_;intro x hx)|(refine gJ ?_;intro j x hj hx)|refine gV ?_|intro _))<;>try (conv=>whnf)
  exact fv
 have hbig2:decide (((code.map (AV.int .u8)).length:Int) > 1048576)=false:=decide_eq_false hbig
 have hf:=xC code
 have hok:=vX code
 have hs:=xB code
 have h3:(dQ code).acts.length≤3:=by have:=(mJ code).1.acts;omega
 have BS:=zA code
 have BM:=zD (dQ code) hs hf code
 have BB:=PY (dQ code) hok hf code
 obtain⟨hR,hRl⟩:=BG hs code
 obtain⟨b1,b2,b3⟩:=Xz hok code
 generalize dQ code=p at hf hok hs h3 BS BM BB hR hRl b1 b2 b3
 generalize nV p code=l at BM hR hRl
 generalize Ih p code=b at BB b1 b2 b3
 have BA:=tV p hf hok h3 5 (by decide)
 have hS:∀s∈iL p 5,dA p s=true:=Fw
 have hSl:=zB hok h3 (m:=5) (by decide)
 generalize iL p 5=S at BA hS hSl
 have BC:=EJ l
 have BU:=mV p (l.map Lin.clause) b hf
 obtain⟨u1,u2,u3⟩:=PZ (list:=l.map Lin.clause) b1
 have hU:∀s,dA p s=true→contains b s=true→(bX p (l.map Lin.clause) b).2=false∧contains (bX p (l.map Lin.clause) b).1 s=true:=fun s hso hc=>by
  obtain⟨g1,g2,g3⟩:=zk (p:=p) (Lc hR hso) (tO b1) ((contains_iff b1 hso).1 hc)
  exact⟨g1,(contains_iff u1 hso).2 g3⟩
 have hsub:=TT u1 b1 u2
 have BV:=mV p (l.map Lin.clause) (bX p (l.map Lin.clause) b).1 hf
 rw [u3] at BV
 rw [RUp] at BU BV
 generalize bX p (l.map Lin.clause) b=r at BU BV u1 hU hsub
 obtain⟨x,no⟩:=r
 dsimp only at BU BV u1 hU hsub
 have BF:=bN p x hf
 rw [u1] at BF
 have BD:=Fe x b
 rw [hsub] at BD
 have BE:=GA x
 have hml:((l.map Lin.clause).map lits).length=l.length:=by simp
 generalize (l.map Lin.clause).map lits=K at BC BU BV hml
 (repeat' ((conv=>whnf);first|with_reducible refine Br.no hbig2 ?_|refine gA ?_|(refine gB ?_ ?_<;>intro h)|(refine gI ?_;intro x hx)|(refine gJ ?_;intro j x hj hx)|refine gV ?_|refine gC (BS) ?_|refine gC (BM) ?_|refine gC (BC) ?_|refine gC (BB) ?_|refine gC (BU) ?_|refine gC (BF) ?_|refine gC (BD) ?_|refine gC (BA) ?_|intro _))<;>try (conv=>whnf)
 all_goals first
  |(exfalso;omega)
  |skip
 refine aB [3,5,6,7,8,51,52] [3,6,7] [] ?_
 (conv=>whnf)
 refine aA.go ((Nat)) (fun i=>(i≤S.length)) (fun i=>[(53,.data (i64 i))]) (fun _=>[]) (fun _=>[]) (fun i=>S.length - i) (0) ?_ ?_
 ·exact Nat.zero_le _
 rintro i hi
 by_cases hil:i < S.length
 ·obtain⟨s,hsi⟩:∃x,S[i]? =some x:=⟨S[i]'hil,by simp⟩
  have hso:=hS s (List.mem_of_getElem? hsi)
  have C1:=BJ b s
  have C2:=BJ x s
  cases hc:contains b s with
  |false=>
   rw [hc] at C1
   (repeat' ((conv=>whnf);first|with_reducible refine Idx.got hsi rfl ?_|(exfalso;omega)|refine gA ?_|(refine gB ?_ ?_<;>intro h)|(refine gI ?_;intro x hx)|(refine gJ ?_;intro j x hj hx)|refine gV ?_|refine gC (C1) ?_|intro _))<;>try (conv=>whnf)
   refine nx (i+1) ?_
   exact (by omega:i+1≤S.length)
  |true=>
   obtain⟨rfl,hx⟩:=hU s hso hc
   rw [hc] at C1
   rw [hx] at C2
   (repeat' ((conv=>whnf);first|with_reducible refine Idx.got hsi rfl ?_|(exfalso;omega)|refine gA ?_|(refine gB ?_ ?_<;>intro h)|(refine gI ?_;intro x hx)|(refine gJ ?_;intro j x hj hx)|refine gV ?_|refine gC (C1) ?_|refine gC (C2) ?_|intro _))<;>try (conv=>whnf)
   refine nx (i+1) ?_
   exact (by omega:i+1≤S.length)
 have hnn:(no == no)=true:=by simp
 (repeat' ((conv=>whnf);first|with_reducible refine Br.yes hnn ?_|(exfalso;omega)|refine gA ?_|(refine gB ?_ ?_<;>intro h)|(refine gI ?_;intro x hx)|(refine gJ ?_;intro j x hj hx)|refine gV ?_|refine gC (BV) ?_|refine gC (BE) ?_|intro _))<;>try (conv=>whnf)
 all_goals first
  |exact fv
end Go.Proofs.YtefgamefajmdkaaGreat.Abs
