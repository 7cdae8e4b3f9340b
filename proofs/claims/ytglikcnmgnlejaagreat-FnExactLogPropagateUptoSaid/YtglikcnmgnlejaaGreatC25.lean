/- Contracts: a clause is shortened. -/
import Derived.Test.YtglikcnmgnlejaaGreatC11
import Derived.Test.YtglikcnmgnlejaaGreatWo
set_option linter.all false
set_option maxRecDepth 20000
set_option maxHeartbeats 0
namespace Go.Proofs.YtglikcnmgnlejaaGreat.Abs
open Go.Proofs
def kQ (p:Proj) (r:Rul) (keeps:Lit→Bool) (out:List Lit) (x:Lit):List Lit:=
 if keeps x=true then out else if refutes p (nX p (jq out x)) r=true then jq out x else out
def mZ (p:Proj) (r:Rul) (keeps:Lit→Bool) (l:List Lit):List Lit:=l.foldl (kQ p r keeps) l
theorem qB {α β:Type} {f:β→α→β} {l:List α} {k:Nat} {x:α} {o:β} (h:l[k]? =some x):(l.drop k).foldl f o=(l.drop (k+1)).foldl f (f o x):=by
 obtain⟨hk,rfl⟩:=List.getElem?_eq_some_iff.1 h
 rw [List.drop_eq_getElem_cons hk,List.foldl_cons]
theorem Dl (p:Proj) (r:Rul) (l:List Lit) (fc:Nat) (caps:List AV) (keeps:Lit→Bool) (hp:p.fine) (hc:∀x:Lit,Con fc ([.d x.av]++caps.map .ref) (.d (.bool (keeps x)))):
  Con 369 [.d p.av,.d r.av,.d (lits l),.fn fc caps] (.lin 190 ((mZ p r keeps l).map Lit.av)):=by
 refine con Tryz.func369 rfl rfl Tryz.call369 rfl fun hwf=>?_
 simp only [ARs.wf,AR.wf,AV.wf,AV.wfs,lm,lim] at hwf
 (repeat' ((conv=>whnf);first|refine gA ?_|(refine gB ?_ ?_<;>intro h)|(refine gI ?_;intro x hx)|(refine gJ ?_;intro j x hj hx)|refine gV ?_|refine gC (Ny l) ?_|intro _))<;>try (conv=>whnf)
 refine au [3,4,5,15,16] [4,5] [15000] ?_
 (conv=>whnf)
 refine ak.go ((Nat)×(List Lit)) (fun⟨k,o⟩=>(k≤l.length)∧(o.length≤l.length)∧((l.drop k).foldl (kQ p r keeps) o=mZ p r keeps l)) (fun⟨k,o⟩=>[(17,.data (i64 k)),(9,.own 15000 0)]) (fun _=>[]) (fun⟨k,o⟩=>[(15000,190,o.map Lit.av,2)]) (fun⟨k,o⟩=>l.length - k) ⟨0,l⟩ ?_ ?_
 ·exact⟨Nat.zero_le _,Nat.le_refl _,rfl⟩
 rintro⟨k,o⟩ ⟨hk,ho,he⟩
 (repeat' ((conv=>whnf);first|refine gA ?_|(refine gB ?_ ?_<;>intro h)|(refine gI ?_;intro x hx)|(refine gJ ?_;intro j x hj hx)|refine gV ?_|refine gC (hc x) ?_|refine gC (Dj o x) ?_|refine gC (nY p (jq o x) hp) ?_|refine gC (jM p (nX p (jq o x)) r hp) ?_|intro _))<;>try (conv=>whnf)
 ·refine nx ⟨k+1,o⟩ ?_
  rw [qB hx,kQ,if_pos h] at he
  exact⟨by omega,ho,he⟩
 ·refine nx ⟨k+1,jq o x⟩ ?_
  rw [qB hx,kQ,if_neg (by simp [*]),if_pos h] at he
  exact⟨by omega,Nat.le_trans (List.length_filter_le _ _) ho,he⟩
 ·refine nx ⟨k+1,o⟩ ?_
  rw [qB hx,kQ,if_neg (by simp [*]),if_neg (by simp [*])] at he
  exact⟨by omega,ho,he⟩
 ·refine⟨?_,rfl,trivial⟩
  rw [aG (by assumption)] at he
  rw [← he];rfl
theorem LH (p:Proj) (r:Rul) (l:List Lit) (fc:Nat) (caps:List AV) (keeps:Lit→Bool) (hp:p.fine) (hc:∀x:Lit,Con fc ([.d x.av]++caps.map .ref) (.d (.bool (keeps x)))):
  Con 369 [.d p.av,.d r.av,.d (lits l),.fn fc caps] (.fr ((mZ p r keeps l).map Lit.av)):=(Dl p r l fc caps keeps hp hc).acN
def GD (l:List Lit) (keep:Int):Lit:=if within keep 0 ((l.length:Int) - 1)=true then l.getD keep.toNat bG else bG
theorem yh {o:List Lit} {x y:Lit} {k:Nat} {d:List Lit} (hd:d++jq (o.drop k) x=jq o x) (hy:o[k]? =some y):(aV y x=false→(d++[y])++jq (o.drop (k+1)) x=jq o x)∧(aV y x=true→d++jq (o.drop (k+1)) x=jq o x):=by
 obtain⟨hk,rfl⟩:=List.getElem?_eq_some_iff.1 hy
 rw [List.drop_eq_getElem_cons hk] at hd
 constructor
 ·intro h
  rw [← hd]
  simp only [jq,List.filter_cons,h,Bool.not_false,if_true,List.append_assoc,List.singleton_append]
 ·intro h
  rw [← hd]
  simp only [jq,List.filter_cons,h,Bool.not_true,Bool.false_eq_true,if_false]
theorem Pe {l:List Lit} {keep:Int} {x:Lit} (hw:within keep 0 ((l.length:Int) - 1)=true) (hx:l[keep.toNat]? =some x):GD l keep=x:=by
 rw [GD,if_pos hw,List.getD_eq_getElem?_getD,hx];rfl
theorem VX {l:List Lit} {keep:Int} (hw:within keep 0 ((l.length:Int) - 1)=false):GD l keep=bG:=by
 rw [GD,if_neg (by rw [hw];exact Bool.false_ne_true)]
theorem iN {a b:Lit} {c:Bool} (h:(decide (a.kind=b.kind)&&(decide (a.act=b.act)&&(decide (a.val=b.val)&&true)))=c):aV a b=c:=by
 rw [← h,Bool.and_true];rfl
theorem Pf {d:List Lit} {o:List Lit} {z:Lit} (h:d=jq o z):d.length≤o.length:=by rw [h];exact List.length_filter_le _ _
theorem LJ (p:Proj) (r:Rul) (l:List Lit) (keep:Int) (hp:p.fine) (ho:bE p=true) (x0:Lit) (hw:within keep 0 ((l.length:Int) - 1)=true) (hx0:l[keep.toNat]? =some x0):Con 356 [.d p.av,.d r.av,.d (lits l),.d (i64 keep)] (.d (lits (mZ p r (fun x=>aV x x0) l))):=by
 refine con Tryz.func356 rfl rfl Tryz.call356 rfl fun hwf=>?_
 simp only [ARs.wf,AR.wf,AV.wf,AV.wfs,lm,lim] at hwf
 have hw':within keep 0 (((l.map Lit.av).length:Int) - 1)=true:=by rw [List.length_map];exact hw
 have hb:=within_iff.1 hw
 (repeat' ((conv=>whnf);first|with_reducible refine Br.yes hw' ?_|with_reducible refine Idx.got hx0 (by omega) ?_|refine gA ?_|(refine gN ?_ ?_<;>intro h hw)|(refine gB ?_ ?_<;>intro h)|(refine gI ?_;intro x hx)|(refine gJ ?_;intro j x hj hx)|refine gP ?_|refine gV ?_|refine gC (cB keep 0 (((l.map Lit.av).length:Int) - 1)) ?_|intro _))<;>try (conv=>whnf)
 refine au [4,5,9,29,30] [4,5,9] [] ?_
 (conv=>whnf)
 refine ak.go ((Nat)×(List Lit)) (fun⟨k,o⟩=>(k≤l.length)∧(o.length≤l.length)∧((l.drop k).foldl (kQ p r fun x=>aV x x0) o=mZ p r (fun x=>aV x x0) l)) (fun⟨k,o⟩=>[(31,.data (i64 k)),(10,.data (lits o))]) (fun _=>[]) (fun _=>[]) (fun⟨k,o⟩=>l.length - k) ⟨0,l⟩ ?_ ?_
 ·exact⟨Nat.zero_le _,Nat.le_refl _,rfl⟩
 rintro⟨k,o⟩ ⟨hk,hol,he⟩
 (repeat' ((conv=>whnf);first|refine gA ?_|(refine gN ?_ ?_<;>intro h hw)|(refine gB ?_ ?_<;>intro h)|(refine gI ?_;intro x hx)|(refine gJ ?_;intro j x hj hx)|refine gP ?_|refine gV ?_|intro _))<;>try (conv=>whnf)
 ·refine nx ⟨k+1,o⟩ ?_
  rw [qB hx,kQ,if_pos (iN h)] at he
  exact⟨by omega,hol,he⟩
 ·obtain⟨z,rfl⟩:∃z,z=x:=⟨x,rfl⟩
  have hz:=hx
  rw [qB hz,kQ,if_neg (by rw [iN (b:=x0) h];exact Bool.false_ne_true),nX,pF,if_pos ho] at he
  clear hx
  refine au [4,5,9,10,12,29,30,31,39,40] [4,5,9,12] [38] ?_
  (conv=>whnf)
  refine ak.go ((Nat)×(List Lit)) (fun⟨j,d⟩=>(j≤o.length)∧(d.length≤j)∧(d++jq (o.drop j) z=jq o z)) (fun⟨j,d⟩=>[(41,.data (i64 j)),(13,.own 38 0)]) (fun _=>[]) (fun⟨j,d⟩=>[(38,190,d.map Lit.av,0)]) (fun⟨j,d⟩=>o.length - j) ⟨0,[]⟩ ?_ ?_
  ·exact⟨Nat.zero_le _,Nat.le_refl _,rfl⟩
  rintro⟨j,d⟩ ⟨hj,hdl,hd⟩
  (repeat' ((conv=>whnf);first|refine gA ?_|(refine gN ?_ ?_<;>intro h hw)|(refine gB ?_ ?_<;>intro h)|(refine gI ?_;intro x hx)|(refine gJ ?_;intro j x hj hx)|refine gP ?_|refine gV ?_|refine gC (xM p (uT ho)) ?_|refine gC (rO (je p) d (uS p)) ?_|refine gC (pO p (against (je p) d) r hp) ?_|intro _))<;>try (conv=>whnf)
  ·refine nx ⟨j+1,d⟩ ?_
   exact⟨by omega,by omega,(yh hd hx).2 (iN h)⟩
  ·refine nw ⟨j+1,d++[x]⟩ ?_ ?_
   ·(repeat' ((conv=>whnf)<;>(first|exact trivial|exact rfl|with_reducible refine And.intro ?_ ?_)))<;>((conv=>whnf)<;>(simp))
   exact⟨by omega,by simp;omega,(yh hd hx).1 (iN h)⟩
  ·rw [aG (by assumption),show jq [] z= [] from rfl,List.append_nil] at hd
   refine nx ⟨k+1,d⟩ ?_
   rw [← hd,if_pos (by assumption)] at he
   exact⟨by omega,Nat.le_trans (Pf hd) hol,he⟩
  ·rw [aG (by assumption),show jq [] z= [] from rfl,List.append_nil] at hd
   refine nx ⟨k+1,o⟩ ?_
   rw [← hd,h,if_neg Bool.false_ne_true] at he
   exact⟨by omega,hol,he⟩
 ·refine⟨?_,rfl,trivial⟩
  rw [aG (by assumption)] at he
  rw [← he];rfl
theorem LK (p:Proj) (r:Rul) (l:List Lit) (keep:Int) (hp:p.fine) (ho:bE p=true) (hw:within keep 0 ((l.length:Int) - 1)=false):Con 356 [.d p.av,.d r.av,.d (lits l),.d (i64 keep)] (.d (lits (mZ p r (fun x=>aV x bG) l))):=by
 refine con Tryz.func356 rfl rfl Tryz.call356 rfl fun hwf=>?_
 simp only [ARs.wf,AR.wf,AV.wf,AV.wfs,lm,lim] at hwf
 have hw':within keep 0 (((l.map Lit.av).length:Int) - 1)=false:=by rw [List.length_map];exact hw
 (repeat' ((conv=>whnf);first|with_reducible refine Br.no hw' ?_|refine gA ?_|(refine gN ?_ ?_<;>intro h hw)|(refine gB ?_ ?_<;>intro h)|(refine gI ?_;intro x hx)|(refine gJ ?_;intro j x hj hx)|refine gP ?_|refine gV ?_|refine gC (cB keep 0 (((l.map Lit.av).length:Int) - 1)) ?_|intro _))<;>try (conv=>whnf)
 refine au [4,5,9,29,30] [4,5,9] [] ?_
 (conv=>whnf)
 refine ak.go ((Nat)×(List Lit)) (fun⟨k,o⟩=>(k≤l.length)∧(o.length≤l.length)∧((l.drop k).foldl (kQ p r fun x=>aV x bG) o=mZ p r (fun x=>aV x bG) l)) (fun⟨k,o⟩=>[(31,.data (i64 k)),(10,.data (lits o))]) (fun _=>[]) (fun _=>[]) (fun⟨k,o⟩=>l.length - k) ⟨0,l⟩ ?_ ?_
 ·exact⟨Nat.zero_le _,Nat.le_refl _,rfl⟩
 rintro⟨k,o⟩ ⟨hk,hol,he⟩
 (repeat' ((conv=>whnf);first|refine gA ?_|(refine gN ?_ ?_<;>intro h hw)|(refine gB ?_ ?_<;>intro h)|(refine gI ?_;intro x hx)|(refine gJ ?_;intro j x hj hx)|refine gP ?_|refine gV ?_|intro _))<;>try (conv=>whnf)
 ·refine nx ⟨k+1,o⟩ ?_
  rw [qB hx,kQ,if_pos (iN h)] at he
  exact⟨by omega,hol,he⟩
 ·obtain⟨z,rfl⟩:∃z,z=x:=⟨x,rfl⟩
  have hz:=hx
  rw [qB hz,kQ,if_neg (by rw [iN (b:=bG) h];exact Bool.false_ne_true),nX,pF,if_pos ho] at he
  clear hx
  refine au [4,5,9,10,12,29,30,31,39,40] [4,5,9,12] [38] ?_
  (conv=>whnf)
  refine ak.go ((Nat)×(List Lit)) (fun⟨j,d⟩=>(j≤o.length)∧(d.length≤j)∧(d++jq (o.drop j) z=jq o z)) (fun⟨j,d⟩=>[(41,.data (i64 j)),(13,.own 38 0)]) (fun _=>[]) (fun⟨j,d⟩=>[(38,190,d.map Lit.av,0)]) (fun⟨j,d⟩=>o.length - j) ⟨0,[]⟩ ?_ ?_
  ·exact⟨Nat.zero_le _,Nat.le_refl _,rfl⟩
  rintro⟨j,d⟩ ⟨hj,hdl,hd⟩
  (repeat' ((conv=>whnf);first|refine gA ?_|(refine gN ?_ ?_<;>intro h hw)|(refine gB ?_ ?_<;>intro h)|(refine gI ?_;intro x hx)|(refine gJ ?_;intro j x hj hx)|refine gP ?_|refine gV ?_|refine gC (xM p (uT ho)) ?_|refine gC (rO (je p) d (uS p)) ?_|refine gC (pO p (against (je p) d) r hp) ?_|intro _))<;>try (conv=>whnf)
  ·refine nx ⟨j+1,d⟩ ?_
   exact⟨by omega,by omega,(yh hd hx).2 (iN h)⟩
  ·refine nw ⟨j+1,d++[x]⟩ ?_ ?_
   ·(repeat' ((conv=>whnf)<;>(first|exact trivial|exact rfl|with_reducible refine And.intro ?_ ?_)))<;>((conv=>whnf)<;>(simp))
   exact⟨by omega,by simp;omega,(yh hd hx).1 (iN h)⟩
  ·rw [aG (by assumption),show jq [] z= [] from rfl,List.append_nil] at hd
   refine nx ⟨k+1,d⟩ ?_
   rw [← hd,if_pos (by assumption)] at he
   exact⟨by omega,Nat.le_trans (Pf hd) hol,he⟩
  ·rw [aG (by assumption),show jq [] z= [] from rfl,List.append_nil] at hd
   refine nx ⟨k+1,o⟩ ?_
   rw [← hd,h,if_neg Bool.false_ne_true] at he
   exact⟨by omega,hol,he⟩
 ·refine⟨?_,rfl,trivial⟩
  rw [aG (by assumption)] at he
  rw [← he];rfl
theorem NA (p:Proj) (r:Rul) (l:List Lit) (keep:Int) (hp:p.fine) (ho:bE p=true):Con 356 [.d p.av,.d r.av,.d (lits l),.d (i64 keep)] (.d (lits (mZ p r (fun x=>aV x (GD l keep)) l))):=by
 cases hw:within keep 0 ((l.length:Int) - 1) with
 |false=>rw [VX hw];exact LK p r l keep hp ho hw
 |true=>
  have hb:=within_iff.1 hw
  obtain⟨x0,hx0⟩:∃x0,l[keep.toNat]? =some x0:=⟨l[keep.toNat]'(by omega),by simp⟩
  rw [Pe hw hx0]
  exact LJ p r l keep hp ho x0 hw hx0
theorem Yo {a b:Lit}:iK a b < 0↔a.act < b.act∨(a.act=b.act∧(a.kind < b.kind∨(a.kind=b.kind∧a.val < b.val))):=by
 simp only [iK,orI,zG]
 repeat' split
 all_goals omega
end Go.Proofs.YtglikcnmgnlejaaGreat.Abs
