/- Contracts: a clause is shortened. -/
import Derived.Test.YtefgamefajmdkaaGreatC11
import Derived.Test.YtefgamefajmdkaaGreatWo
set_option linter.all false
set_option maxRecDepth 20000
set_option maxHeartbeats 0
namespace Go.Proofs.YtefgamefajmdkaaGreat.Abs
open Go.Proofs
def lN (p:Proj) (r:Rul) (keeps:Lit→Bool) (out:List Lit) (x:Lit):List Lit:=
 if keeps x=true then out else if refutes p (fT p (gT out x)) r=true then gT out x else out
def ng (p:Proj) (r:Rul) (keeps:Lit→Bool) (l:List Lit):List Lit:=l.foldl (lN p r keeps) l
theorem zZ {α β:Type} {f:β→α→β} {l:List α} {k:Nat} {x:α} {o:β} (h:l[k]? =some x):(l.drop k).foldl f o=(l.drop (k+1)).foldl f (f o x):=by
 obtain⟨hk,rfl⟩:=List.getElem?_eq_some_iff.1 h
 rw [List.drop_eq_getElem_cons hk,List.foldl_cons]
def Gp (l:List Lit) (keep:Int):Lit:=if within keep 0 ((l.length:Int) - 1)=true then l.getD keep.toNat bq else bq
theorem wJ {o:List Lit} {x y:Lit} {k:Nat} {d:List Lit} (hd:d++gT (o.drop k) x=gT o x) (hy:o[k]? =some y):(dD y x=false→(d++[y])++gT (o.drop (k+1)) x=gT o x)∧(dD y x=true→d++gT (o.drop (k+1)) x=gT o x):=by
 obtain⟨hk,rfl⟩:=List.getElem?_eq_some_iff.1 hy
 rw [List.drop_eq_getElem_cons hk] at hd
 constructor
 ·intro h
  rw [← hd]
  simp only [gT,List.filter_cons,h,Bool.not_false,if_true,List.append_assoc,List.singleton_append]
 ·intro h
  rw [← hd]
  simp only [gT,List.filter_cons,h,Bool.not_true,Bool.false_eq_true,if_false]
theorem Nc {l:List Lit} {keep:Int} {x:Lit} (hw:within keep 0 ((l.length:Int) - 1)=true) (hx:l[keep.toNat]? =some x):Gp l keep=x:=by
 rw [Gp,if_pos hw,List.getD_eq_getElem?_getD,hx];rfl
theorem TF {l:List Lit} {keep:Int} (hw:within keep 0 ((l.length:Int) - 1)=false):Gp l keep=bq:=by
 rw [Gp,if_neg (by rw [hw];exact Bool.false_ne_true)]
theorem iA {a b:Lit} {c:Bool} (h:(decide (a.kind=b.kind)&&(decide (a.act=b.act)&&(decide (a.val=b.val)&&true)))=c):dD a b=c:=by
 rw [← h,Bool.and_true];rfl
theorem Nf {d:List Lit} {o:List Lit} {z:Lit} (h:d=gT o z):d.length≤o.length:=by rw [h];exact List.length_filter_le _ _
theorem KG (p:Proj) (r:Rul) (l:List Lit) (keep:Int) (hp:p.fine) (ho:aF p=true) (x0:Lit) (hw:within keep 0 ((l.length:Int) - 1)=true) (hx0:l[keep.toNat]? =some x0):Con 176 [.d p.av,.d r.av,.d (lits l),.d (i64 keep)] (.d (lits (ng p r (fun x=>dD x x0) l))):=by
 refine con Tryz.func176 rfl rfl Tryz.call176 rfl fun hwf=>?_
 simp only [ARs.wf,AR.wf,AV.wf,AV.wfs,lm,lim] at hwf
 have hw':within keep 0 (((l.map Lit.av).length:Int) - 1)=true:=by rw [List.length_map];exact hw
 have hb:=within_iff.1 hw
 (repeat' ((conv=>whnf);first|with_reducible refine Br.yes hw' ?_|with_reducible refine Idx.got hx0 (by omega) ?_|refine gA ?_|(refine gN ?_ ?_<;>intro h hw)|(refine gB ?_ ?_<;>intro h)|(refine gI ?_;intro x hx)|(refine gJ ?_;intro j x hj hx)|refine gP ?_|refine gV ?_|refine gC (dh keep 0 (((l.map Lit.av).length:Int) - 1)) ?_|intro _))<;>try (conv=>whnf)
 refine aB [4,5,9,29,30] [4,5,9] [] ?_
 (conv=>whnf)
 refine aA.go ((Nat)×(List Lit)) (fun⟨k,o⟩=>(k≤l.length)∧(o.length≤l.length)∧((l.drop k).foldl (lN p r fun x=>dD x x0) o=ng p r (fun x=>dD x x0) l)) (fun⟨k,o⟩=>[(31,.data (i64 k)),(10,.data (lits o))]) (fun _=>[]) (fun _=>[]) (fun⟨k,o⟩=>l.length - k) ⟨0,l⟩ ?_ ?_
 ·exact⟨Nat.zero_le _,Nat.le_refl _,rfl⟩
 rintro⟨k,o⟩ ⟨hk,hol,he⟩
 (repeat' ((conv=>whnf);first|refine gA ?_|(refine gN ?_ ?_<;>intro h hw)|(refine gB ?_ ?_<;>intro h)|(refine gI ?_;intro x hx)|(refine gJ ?_;intro j x hj hx)|refine gP ?_|refine gV ?_|intro _))<;>try (conv=>whnf)
 ·refine nx ⟨k+1,o⟩ ?_
  rw [zZ hx,lN,if_pos (iA h)] at he
  exact⟨by omega,hol,he⟩
 ·obtain⟨z,rfl⟩:∃z,z=x:=⟨x,rfl⟩
  have hz:=hx
  rw [zZ hz,lN,if_neg (by rw [iA (b:=x0) h];exact Bool.false_ne_true),fT,aT,if_pos ho] at he
  clear hx
  refine aB [4,5,9,10,12,29,30,31,39,40] [4,5,9,12] [38] ?_
  (conv=>whnf)
  refine aA.go ((Nat)×(List Lit)) (fun⟨j,d⟩=>(j≤o.length)∧(d.length≤j)∧(d++gT (o.drop j) z=gT o z)) (fun⟨j,d⟩=>[(41,.data (i64 j)),(13,.own 38 0)]) (fun _=>[]) (fun⟨j,d⟩=>[(38,82,d.map Lit.av,0)]) (fun⟨j,d⟩=>o.length - j) ⟨0,[]⟩ ?_ ?_
  ·exact⟨Nat.zero_le _,Nat.le_refl _,rfl⟩
  rintro⟨j,d⟩ ⟨hj,hdl,hd⟩
  (repeat' ((conv=>whnf);first|refine gA ?_|(refine gN ?_ ?_<;>intro h hw)|(refine gB ?_ ?_<;>intro h)|(refine gI ?_;intro x hx)|(refine gJ ?_;intro j x hj hx)|refine gP ?_|refine gV ?_|refine gC (wo p (yJ ho)) ?_|refine gC (qj (fP p) d (yI p)) ?_|refine gC (nT p (against (fP p) d) r hp) ?_|intro _))<;>try (conv=>whnf)
  ·refine nx ⟨j+1,d⟩ ?_
   exact⟨by omega,by omega,(wJ hd hx).2 (iA h)⟩
  ·refine nw ⟨j+1,d++[x]⟩ ?_ ?_
   ·(repeat' ((conv=>whnf)<;>(first|exact trivial|exact rfl|with_reducible refine And.intro ?_ ?_)))<;>((conv=>whnf)<;>(simp))
   exact⟨by omega,by simp;omega,(wJ hd hx).1 (iA h)⟩
  ·rw [aG (by assumption),show gT [] z= [] from rfl,List.append_nil] at hd
   refine nx ⟨k+1,d⟩ ?_
   rw [← hd,if_pos (by assumption)] at he
   exact⟨by omega,Nat.le_trans (Nf hd) hol,he⟩
  ·rw [aG (by assumption),show gT [] z= [] from rfl,List.append_nil] at hd
   refine nx ⟨k+1,o⟩ ?_
   rw [← hd,h,if_neg Bool.false_ne_true] at he
   exact⟨by omega,hol,he⟩
 ·refine⟨?_,rfl,trivial⟩
  rw [aG (by assumption)] at he
  rw [← he];rfl
theorem KH (p:Proj) (r:Rul) (l:List Lit) (keep:Int) (hp:p.fine) (ho:aF p=true) (hw:within keep 0 ((l.length:Int) - 1)=false):Con 176 [.d p.av,.d r.av,.d (lits l),.d (i64 keep)] (.d (lits (ng p r (fun x=>dD x bq) l))):=by
 refine con Tryz.func176 rfl rfl Tryz.call176 rfl fun hwf=>?_
 simp only [ARs.wf,AR.wf,AV.wf,AV.wfs,lm,lim] at hwf
 have hw':within keep 0 (((l.map Lit.av).length:Int) - 1)=false:=by rw [List.length_map];exact hw
 (repeat' ((conv=>whnf);first|with_reducible refine Br.no hw' ?_|refine gA ?_|(refine gN ?_ ?_<;>intro h hw)|(refine gB ?_ ?_<;>intro h)|(refine gI ?_;intro x hx)|(refine gJ ?_;intro j x hj hx)|refine gP ?_|refine gV ?_|refine gC (dh keep 0 (((l.map Lit.av).length:Int) - 1)) ?_|intro _))<;>try (conv=>whnf)
 refine aB [4,5,9,29,30] [4,5,9] [] ?_
 (conv=>whnf)
 refine aA.go ((Nat)×(List Lit)) (fun⟨k,o⟩=>(k≤l.length)∧(o.length≤l.length)∧((l.drop k).foldl (lN p r fun x=>dD x bq) o=ng p r (fun x=>dD x bq) l)) (fun⟨k,o⟩=>[(31,.data (i64 k)),(10,.data (lits o))]) (fun _=>[]) (fun _=>[]) (fun⟨k,o⟩=>l.length - k) ⟨0,l⟩ ?_ ?_
 ·exact⟨Nat.zero_le _,Nat.le_refl _,rfl⟩
 rintro⟨k,o⟩ ⟨hk,hol,he⟩
 (repeat' ((conv=>whnf);first|refine gA ?_|(refine gN ?_ ?_<;>intro h hw)|(refine gB ?_ ?_<;>intro h)|(refine gI ?_;intro x hx)|(refine gJ ?_;intro j x hj hx)|refine gP ?_|refine gV ?_|intro _))<;>try (conv=>whnf)
 ·refine nx ⟨k+1,o⟩ ?_
  rw [zZ hx,lN,if_pos (iA h)] at he
  exact⟨by omega,hol,he⟩
 ·obtain⟨z,rfl⟩:∃z,z=x:=⟨x,rfl⟩
  have hz:=hx
  rw [zZ hz,lN,if_neg (by rw [iA (b:=bq) h];exact Bool.false_ne_true),fT,aT,if_pos ho] at he
  clear hx
  refine aB [4,5,9,10,12,29,30,31,39,40] [4,5,9,12] [38] ?_
  (conv=>whnf)
  refine aA.go ((Nat)×(List Lit)) (fun⟨j,d⟩=>(j≤o.length)∧(d.length≤j)∧(d++gT (o.drop j) z=gT o z)) (fun⟨j,d⟩=>[(41,.data (i64 j)),(13,.own 38 0)]) (fun _=>[]) (fun⟨j,d⟩=>[(38,82,d.map Lit.av,0)]) (fun⟨j,d⟩=>o.length - j) ⟨0,[]⟩ ?_ ?_
  ·exact⟨Nat.zero_le _,Nat.le_refl _,rfl⟩
  rintro⟨j,d⟩ ⟨hj,hdl,hd⟩
  (repeat' ((conv=>whnf);first|refine gA ?_|(refine gN ?_ ?_<;>intro h hw)|(refine gB ?_ ?_<;>intro h)|(refine gI ?_;intro x hx)|(refine gJ ?_;intro j x hj hx)|refine gP ?_|refine gV ?_|refine gC (wo p (yJ ho)) ?_|refine gC (qj (fP p) d (yI p)) ?_|refine gC (nT p (against (fP p) d) r hp) ?_|intro _))<;>try (conv=>whnf)
  ·refine nx ⟨j+1,d⟩ ?_
   exact⟨by omega,by omega,(wJ hd hx).2 (iA h)⟩
  ·refine nw ⟨j+1,d++[x]⟩ ?_ ?_
   ·(repeat' ((conv=>whnf)<;>(first|exact trivial|exact rfl|with_reducible refine And.intro ?_ ?_)))<;>((conv=>whnf)<;>(simp))
   exact⟨by omega,by simp;omega,(wJ hd hx).1 (iA h)⟩
  ·rw [aG (by assumption),show gT [] z= [] from rfl,List.append_nil] at hd
   refine nx ⟨k+1,d⟩ ?_
   rw [← hd,if_pos (by assumption)] at he
   exact⟨by omega,Nat.le_trans (Nf hd) hol,he⟩
  ·rw [aG (by assumption),show gT [] z= [] from rfl,List.append_nil] at hd
   refine nx ⟨k+1,o⟩ ?_
   rw [← hd,h,if_neg Bool.false_ne_true] at he
   exact⟨by omega,hol,he⟩
 ·refine⟨?_,rfl,trivial⟩
  rw [aG (by assumption)] at he
  rw [← he];rfl
theorem LQ (p:Proj) (r:Rul) (l:List Lit) (keep:Int) (hp:p.fine) (ho:aF p=true):Con 176 [.d p.av,.d r.av,.d (lits l),.d (i64 keep)] (.d (lits (ng p r (fun x=>dD x (Gp l keep)) l))):=by
 cases hw:within keep 0 ((l.length:Int) - 1) with
 |false=>rw [TF hw];exact KH p r l keep hp ho hw
 |true=>
  have hb:=within_iff.1 hw
  obtain⟨x0,hx0⟩:∃x0,l[keep.toNat]? =some x0:=⟨l[keep.toNat]'(by omega),by simp⟩
  rw [Nc hw hx0]
  exact KG p r l keep hp ho x0 hw hx0
end Go.Proofs.YtefgamefajmdkaaGreat.Abs
