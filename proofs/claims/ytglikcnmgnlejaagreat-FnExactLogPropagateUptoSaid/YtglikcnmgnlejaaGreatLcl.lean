/- How far the laws' mark.. counts on projects and logs; marked logs. -/
import Derived.Test.YtglikcnmgnlejaaGreatLct
import Derived.Test.YtglikcnmgnlejaaGreatLh
import Derived.Test.YtglikcnmgnlejaaGreatLmk
import Derived.Test.YtglikcnmgnlejaaGreatQ3
set_option linter.all false
set_option maxRecDepth 20000
set_option maxHeartbeats 0
namespace Go.Proofs.YtglikcnmgnlejaaGreat.Abs
open Go.Proofs
theorem aat (l:List Step) (k:Int):(ah (aB iA) (l.map Step.av) k).2=k+aR Step.cnt l:=
 iY (fun x k=>by simp only [aB,iA,AV.cells,List.set,List.getElem?_cons_zero,List.getElem?_cons_succ,Step.cnt];omega) l k
theorem abp (l:List Step):∀x∈l.map Step.av,FH x:=by
 intro x hx
 obtain⟨y,_,rfl⟩:=List.mem_map.1 hx
 exact⟨_,rfl,⟨_,_,rfl,_,_,rfl,rfl⟩⟩
theorem MP (l:List Link) (k:Int):(ah (aB dF) (l.map Link.av) k).2=k+aR Link.cnt l:=
 iY (fun x k=>by simp only [aB,dF,AV.cells,List.set,List.getElem?_cons_zero,List.getElem?_cons_succ,Link.cnt];omega) l k
theorem XM (l:List Link):∀x∈l.map Link.av,Bd x:=by
 intro x hx
 obtain⟨y,_,rfl⟩:=List.mem_map.1 hx
 exact⟨_,rfl,⟨_,_,rfl,_,_,rfl,_,_,rfl,_,_,rfl,rfl⟩⟩
theorem aau (l:List Mode) (k:Int):(ah (aB jo) (l.map Mode.av) k).2=k+aR Mode.cnt l:=
 iY (fun x k=>by simp only [aB,jo,AV.cells,List.set,List.getElem?_cons_zero,List.getElem?_cons_succ,sJ,Mode.cnt];omega) l k
theorem abq (l:List Mode):∀x∈l.map Mode.av,FC x:=by
 intro x hx
 obtain⟨y,_,rfl⟩:=List.mem_map.1 hx
 exact⟨_,rfl,⟨_,_,rfl,_,_,rfl,yH _,_,_,rfl,yH _,rfl⟩⟩
theorem Hw (l:List aC) (k:Int):(ah (aB aS) (l.map aC.av) k).2=k+aR aC.cnt l:=
 iY (fun x k=>by simp only [aB,aS,AV.cells,List.set,List.getElem?_cons_zero,List.getElem?_cons_succ,aau,aC.cnt];omega) l k
theorem UN (l:List aC):∀x∈l.map aC.av,oH x:=by
 intro x hx
 obtain⟨y,_,rfl⟩:=List.mem_map.1 hx
 exact⟨_,rfl,⟨_,_,rfl,_,_,rfl,_,_,rfl,abq _,rfl⟩⟩
theorem Hy (l:List aL) (k:Int):(ah (aB bg) (l.map aL.av) k).2=k+aR aL.cnt l:=
 iY (fun x k=>by simp only [aB,bg,AV.cells,List.set,List.getElem?_cons_zero,List.getElem?_cons_succ,aat,FJ,aL.cnt,Pq];omega) l k
theorem UO (l:List aL):∀x∈l.map aL.av,oI x:=by
 intro x hx
 obtain⟨y,_,rfl⟩:=List.mem_map.1 hx
 exact⟨_,rfl,⟨_,_,rfl,abp _,_,_,rfl,RO _,rfl⟩⟩
abbrev Proj.cellsOf (x:Proj):List AV:=[i64 x.dead,.sl (x.acts.map aC.av),.sl (x.links.map Link.av),.sl (x.aU.map aL.av),ints x.aO]
theorem FL (x:Proj) (n:Int) (hn:0≤n∧n+x.cnt≤4611686018427387904):Con 96 [.d (.agg (aB iJ x.cellsOf n).1),.d (i64 n)] (.d (i64 (n+x.cnt))):=by
 refine con Tryz.func96 rfl rfl Tryz.call96 rfl fun hwf=>?_
 have h1:=aT (f:=aC.cnt) (l:=x.acts) (fun x _=>x.bH)
 have h2:=aT (f:=Link.cnt) (l:=x.links) (fun x _=>x.bH)
 have h3:=aT (f:=aL.cnt) (l:=x.aU) (fun x _=>x.bH)
 have he:x.cnt=aR aC.cnt x.acts+aR Link.cnt x.links+aR aL.cnt x.aU+x.aO.length:=rfl
 have e1:=Hw x.acts n
 have e2:=MP x.links (n+aR aC.cnt x.acts)
 have e3:=Hy x.aU (n+aR aC.cnt x.acts+aR Link.cnt x.links)
 have e4:=sJ x.aO (n+aR aC.cnt x.acts+aR Link.cnt x.links+aR aL.cnt x.aU)
 have H1:=BG (x.acts.map aC.av) n (by omega) (UN _) (by omega)
 have H2:=JE (x.links.map Link.av) (n+aR aC.cnt x.acts) (by omega) (XM _) (by omega)
 have H3:=BH (x.aU.map aL.av) (n+aR aC.cnt x.acts+aR Link.cnt x.links) (by omega) (UO _) (by omega)
 have H4:=kS (x.aO.map i64) (n+aR aC.cnt x.acts+aR Link.cnt x.links+aR aL.cnt x.aU) (by omega) (yH _) (by omega)
 have ee:(aB iJ x.cellsOf n).1= [i64 x.dead,.sl (ah (aB aS) (x.acts.map aC.av) n).1,.sl (ah (aB dF) (x.links.map Link.av) (n+aR aC.cnt x.acts)).1,.sl (ah (aB bg) (x.aU.map aL.av) (n+aR aC.cnt x.acts+aR Link.cnt x.links)).1,.sl (ah (aB bF) (x.aO.map i64) (n+aR aC.cnt x.acts+aR Link.cnt x.links+aR aL.cnt x.aU)).1]:=by
  simp only [aB,iJ,List.set,List.getElem?_cons_zero,List.getElem?_cons_succ,e1,e2,e3]
 rw [ee]
 rw [e1] at H1
 rw [e2] at H2
 rw [e3] at H3
 rw [e4] at H4
 (repeat' ((conv=>whnf);first|with_reducible refine Br.no (decide_eq_false (by omega)) ?_|refine gA ?_|(refine gB ?_ ?_<;>intro h)|refine gC (H1) ?_|refine gC (H2) ?_|refine gC (H3) ?_|refine gC (H4) ?_|intro _))<;>try (conv=>whnf)
 refine⟨?_,rfl,trivial⟩
 exact congrArg (AV.int .i64) (by omega)
abbrev Lg.sh (x:Lg):AV:=.agg [.any,.sl (x.proj.acts.map aC.sh),.sl (x.proj.links.map Link.sh),.sl (x.proj.aU.map aL.sh),shI x.proj.aO,shI x.dom.lo,shI x.dom.hi,.sl (x.dom.modes.map shI),.sl (x.decs.map Lit.sh),.sl (x.lines.map Lin.sh)]
abbrev Lg.cnt (x:Lg):Int:=x.proj.cnt+x.dom.cnt+aR Lit.cnt x.decs+aR Lin.cnt x.lines
theorem Lg.bH (x:Lg):0≤x.cnt:=by
 have h1:=aT (f:=Lit.cnt) (l:=x.decs) (fun x _=>x.bH)
 have h2:=aT (f:=Lin.cnt) (l:=x.lines) (fun x _=>x.bH)
 have h3:=x.proj.bH
 have h4:=x.dom.bH
 unfold Lg.cnt;omega
theorem Lg.gL (x:Lg):x.av.shape=x.sh:=by
 simp only [AV.shape,AV.shapes]
 rw [show AV.sl (AV.shapes (x.proj.acts.map aC.av))= .sl (x.proj.acts.map aC.sh) from Abs.gL aC.gL x.proj.acts,show AV.sl (AV.shapes (x.proj.links.map Link.av))= .sl (x.proj.links.map Link.sh) from Abs.gL Link.gL x.proj.links,
  show AV.sl (AV.shapes (x.proj.aU.map aL.av))= .sl (x.proj.aU.map aL.sh) from Abs.gL aL.gL x.proj.aU,show AV.sl (AV.shapes (x.proj.aO.map i64))=shI x.proj.aO from yE x.proj.aO,
  show AV.sl (AV.shapes (x.dom.lo.map i64))=shI x.dom.lo from yE x.dom.lo,show AV.sl (AV.shapes (x.dom.hi.map i64))=shI x.dom.hi from yE x.dom.hi,show AV.sl (AV.shapes (x.dom.modes.map ints))= .sl (x.dom.modes.map shI) from Abs.gL yE x.dom.modes,
  show AV.sl (AV.shapes (x.decs.map Lit.av))= .sl (x.decs.map Lit.sh) from Abs.gL Lit.gL x.decs,show AV.sl (AV.shapes (x.lines.map Lin.av))= .sl (x.lines.map Lin.sh) from Abs.gL Lin.gL x.lines]
theorem abR (x:Lg):x.av.md false=true:=by
 simp only [AV.md,AV.mds]
 exact gT rfl (gT (mdS aan x.proj.acts) (gT (mdS abl x.proj.links) (gT (mdS aao x.proj.aU) (gT (yF x.proj.aO) (gT (yF x.dom.lo) (gT (yF x.dom.hi) (gT (mdS yF x.dom.modes) (gT (Xz x.decs) (gT (mdS adg x.lines) rfl)))))))))
theorem RQ (x:Lg) (n:Int) (hn:0≤n∧n+x.cnt≤4611686018427387904):Con 28 [.old x.sh,.d (i64 n)] (.d (i64 (n+x.cnt))):=by
 refine con Tryz.func28 rfl rfl Tryz.call28 rfl fun hwf=>?_
 have h1:=aT (f:=Lit.cnt) (l:=x.decs) (fun x _=>x.bH)
 have h2:=aT (f:=Lin.cnt) (l:=x.lines) (fun x _=>x.bH)
 have h3:=x.proj.bH
 have h4:=x.dom.bH
 have he:x.cnt=x.proj.cnt+x.dom.cnt+aR Lit.cnt x.decs+aR Lin.cnt x.lines:=rfl
 (repeat' ((conv=>whnf);first|refine gA ?_|(refine gB ?_ ?_<;>intro h)|refine gC (Hr x.proj n (by omega)) ?_|refine gC (JA x.dom _ (by omega)) ?_|refine gC (vC x.decs _ (by omega)) ?_|refine gC (MI x.lines _ (by omega)) ?_|intro _))<;>try (conv=>whnf)
 refine⟨?_,rfl,trivial⟩
 exact congrArg (AV.int .i64) (by omega)
theorem UQ (x:Lg):Con 25 [.old x.av] (.d x.av):=by
 refine con Tryz.func25 rfl rfl Tryz.call25 rfl fun hwf=>?_
 (repeat' ((conv=>whnf);first|refine gA ?_|(refine gB ?_ ?_<;>intro h)|refine gC (Jy x.proj) ?_|refine gC (ME x.dom) ?_|refine gC (wX x.decs) ?_|refine gC (NS x.lines) ?_|intro _))<;>try (conv=>whnf)
 exact⟨rfl,rfl,trivial⟩
theorem abr (x:Lg) (n:Int) (h:0≤FK x n):x.cnt≤5*(n - FK x n)∧FK x n≤n:=by
 unfold FK at h ⊢
 obtain⟨h1,e1⟩:=kR h;rw [e1] at h ⊢;(try dsimp only at h ⊢)
 obtain⟨h2,e2⟩:=kR h;rw [e2] at h ⊢;(try dsimp only at h ⊢)
 obtain⟨h3,e3⟩:=kR h;rw [e3] at h ⊢;(try dsimp only at h ⊢)
 obtain⟨h4,e4⟩:=kR h;rw [e4] at h ⊢;(try dsimp only at h ⊢)
 have:=UH _ _ h1;have:=Wp _ _ h2;have:=rU h3;have:=Ht (f:=fun x n=>qH x n) (c:=Lin.cnt) aap h4
 have:=uE x.decs
 unfold Lg.cnt;omega
abbrev Lg.cellsOf (x:Lg):List AV:=[i64 x.proj.dead,.sl (x.proj.acts.map aC.av),.sl (x.proj.links.map Link.av),.sl (x.proj.aU.map aL.av),ints x.proj.aO,ints x.dom.lo,ints x.dom.hi,.sl (x.dom.modes.map ints),lits x.decs,.sl (x.lines.map Lin.av)]
theorem abt (x:Lg) (k:Int):(aB Cw x.cellsOf k).2=k+x.cnt:=by
 have he:x.cnt=aR aC.cnt x.proj.acts+aR Link.cnt x.proj.links+aR aL.cnt x.proj.aU+x.proj.aO.length+(x.dom.lo.length+x.dom.hi.length+aR (fun x=>(x.length:Int)) x.dom.modes)+3*x.decs.length+aR Lin.cnt x.lines:=by
  have:=uE x.decs
  unfold Lg.cnt Proj.cnt Dom.cnt;omega
 simp only [aB,Cw,List.set,List.getElem?_cons_zero,List.getElem?_cons_succ,Hw,MP,Hy,sJ,FJ,RN,XK]
 omega
theorem adi (x:Lg):okC XJ x.cellsOf:=⟨_,_,rfl,_,_,rfl,UN _,_,_,rfl,XM _,_,_,rfl,UO _,_,_,rfl,yH _,_,_,rfl,yH _,_,_,rfl,yH _,_,_,rfl,RO _,_,_,rfl,Wx _,_,_,rfl,aas _,rfl⟩
theorem NZ (x:Lg) (n:Int) (hn:0≤n∧n+x.cnt≤4611686018427387904):Con 29 [.d (.agg (aB Cw x.cellsOf n).1),.d (i64 n)] (.d (i64 (n+x.cnt))):=by
 refine con Tryz.func29 rfl rfl Tryz.call29 rfl fun hwf=>?_
 have h1:=aT (f:=Lit.cnt) (l:=x.decs) (fun x _=>x.bH)
 have h2:=aT (f:=Lin.cnt) (l:=x.lines) (fun x _=>x.bH)
 have h3:=x.proj.bH
 have h4:=x.dom.bH
 have hl:=uE x.decs
 have he:x.cnt=x.proj.cnt+x.dom.cnt+aR Lit.cnt x.decs+aR Lin.cnt x.lines:=rfl
 have H1:=FL x.proj n (by omega)
 have H2:=Hu x.dom (n+x.proj.cnt) (by omega)
 have e3:=RN x.decs (n+x.proj.cnt+x.dom.cnt)
 have e4:=XK x.lines (n+x.proj.cnt+x.dom.cnt+3*x.decs.length)
 have H3:=uF (x.decs.map Lit.av) (n+x.proj.cnt+x.dom.cnt) (by omega) (Wx _) (by omega)
 have H4:=JD (x.lines.map Lin.av) (n+x.proj.cnt+x.dom.cnt+3*x.decs.length) (by omega) (aas _) (by omega)
 have p1:=Hw x.proj.acts n
 have p2:=MP x.proj.links (n+aR aC.cnt x.proj.acts)
 have p3:=Hy x.proj.aU (n+aR aC.cnt x.proj.acts+aR Link.cnt x.proj.links)
 have p4:=sJ x.proj.aO (n+aR aC.cnt x.proj.acts+aR Link.cnt x.proj.links+aR aL.cnt x.proj.aU)
 have ep:n+x.proj.cnt=n+aR aC.cnt x.proj.acts+aR Link.cnt x.proj.links+aR aL.cnt x.proj.aU+x.proj.aO.length:=by unfold Proj.cnt;omega
 have d1:=sJ x.dom.lo (n+x.proj.cnt)
 have d2:=sJ x.dom.hi (n+x.proj.cnt+x.dom.lo.length)
 have d3:=FJ x.dom.modes (n+x.proj.cnt+x.dom.lo.length+x.dom.hi.length)
 have ed:n+x.proj.cnt+x.dom.cnt=n+x.proj.cnt+x.dom.lo.length+x.dom.hi.length+aR (fun x=>(x.length:Int)) x.dom.modes:=by unfold Dom.cnt;omega
 have ee:(aB Cw x.cellsOf n).1=(aB iJ x.proj.cellsOf n).1++(aB jU x.dom.cellsOf (n+x.proj.cnt)).1++[.sl (ah (aB bQ) (x.decs.map Lit.av) (n+x.proj.cnt+x.dom.cnt)).1,.sl (ah (aB iT) (x.lines.map Lin.av) (n+x.proj.cnt+x.dom.cnt+3*x.decs.length)).1]:=by
  simp only [aB,Cw,iJ,jU,List.set,List.getElem?_cons_zero,List.getElem?_cons_succ,p1,p2,p3,p4, ← ep,d1,d2,d3, ← ed,e3,List.cons_append,List.nil_append]
 rw [ee]
 rw [e3] at H3
 rw [e4] at H4
 have g1:(aB iJ x.proj.cellsOf n).1= [i64 x.proj.dead,.sl (ah (aB aS) (x.proj.acts.map aC.av) n).1,.sl (ah (aB dF) (x.proj.links.map Link.av) (n+aR aC.cnt x.proj.acts)).1,.sl (ah (aB bg) (x.proj.aU.map aL.av) (n+aR aC.cnt x.proj.acts+aR Link.cnt x.proj.links)).1,.sl (ah (aB bF) (x.proj.aO.map i64) (n+aR aC.cnt x.proj.acts+aR Link.cnt x.proj.links+aR aL.cnt x.proj.aU)).1]:=by
  simp only [aB,iJ,List.set,List.getElem?_cons_zero,List.getElem?_cons_succ,p1,p2,p3]
 have g2:(aB jU x.dom.cellsOf (n+x.proj.cnt)).1= [.sl (ah (aB bF) (x.dom.lo.map i64) (n+x.proj.cnt)).1,.sl (ah (aB bF) (x.dom.hi.map i64) (n+x.proj.cnt+x.dom.lo.length)).1,.sl (ah (aB eZ) (x.dom.modes.map ints) (n+x.proj.cnt+x.dom.lo.length+x.dom.hi.length)).1]:=by
  simp only [aB,jU,List.set,List.getElem?_cons_zero,List.getElem?_cons_succ,d1,d2]
 rw [g1] at H1 ⊢
 rw [g2] at H2 ⊢
 simp only [List.cons_append,List.nil_append]
 (repeat' ((conv=>whnf);first|with_reducible refine Br.no (decide_eq_false (by omega)) ?_|refine gA ?_|(refine gB ?_ ?_<;>intro h)|refine gC (H1) ?_|refine gC (H2) ?_|refine gC (H3) ?_|refine gC (H4) ?_|intro _))<;>try (conv=>whnf)
 refine⟨?_,rfl,trivial⟩
 exact congrArg (AV.int .i64) (by omega)
end Go.Proofs.YtglikcnmgnlejaaGreat.Abs
