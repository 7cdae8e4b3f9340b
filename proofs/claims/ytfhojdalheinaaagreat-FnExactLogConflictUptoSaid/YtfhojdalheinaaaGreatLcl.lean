/- How far the laws' mark.. counts on projects and logs; marked logs. No statement of a claim. -/
import Derived.Test.YtfhojdalheinaaaGreatLct
import Derived.Test.YtfhojdalheinaaaGreatLh
import Derived.Test.YtfhojdalheinaaaGreatLmk
import Derived.Test.YtfhojdalheinaaaGreatQ3
set_option linter.all false
set_option linter.unusedVariables false
set_option linter.unusedSimpArgs false
set_option maxRecDepth 20000
set_option maxHeartbeats 4000000
namespace Go.Proofs.YtfhojdalheinaaaGreat.Abs
open Go.Proofs
theorem cnt_Step (l:List Step) (k:Int):(markRow (rowF cmStepS) (l.map Step.av) k).2=k+cntS Step.cnt l:=
 markRow_cnt (fun x k=>by simp only [rowF,cmStepS,AV.cells,List.set,List.getElem?_cons_zero,List.getElem?_cons_succ,Step.cnt];omega) l k
theorem ok_Step (l:List Step):∀x∈l.map Step.av,seStepS x:=by
 intro x hx
 obtain⟨y,_,rfl⟩:=List.mem_map.1 hx
 exact⟨_,rfl,⟨_,_,rfl,_,_,rfl,rfl⟩⟩
theorem cnt_Link (l:List Link) (k:Int):(markRow (rowF cmLinkS) (l.map Link.av) k).2=k+cntS Link.cnt l:=
 markRow_cnt (fun x k=>by simp only [rowF,cmLinkS,AV.cells,List.set,List.getElem?_cons_zero,List.getElem?_cons_succ,Link.cnt];omega) l k
theorem ok_Link (l:List Link):∀x∈l.map Link.av,seLinkS x:=by
 intro x hx
 obtain⟨y,_,rfl⟩:=List.mem_map.1 hx
 exact⟨_,rfl,⟨_,_,rfl,_,_,rfl,_,_,rfl,_,_,rfl,rfl⟩⟩
theorem cnt_Mode (l:List Mode) (k:Int):(markRow (rowF cmModeS) (l.map Mode.av) k).2=k+cntS Mode.cnt l:=
 markRow_cnt (fun x k=>by simp only [rowF,cmModeS,AV.cells,List.set,List.getElem?_cons_zero,List.getElem?_cons_succ,cnt_Int,Mode.cnt];omega) l k
theorem ok_Mode (l:List Mode):∀x∈l.map Mode.av,seModeS x:=by
 intro x hx
 obtain⟨y,_,rfl⟩:=List.mem_map.1 hx
 exact⟨_,rfl,⟨_,_,rfl,_,_,rfl,ok_Int _,_,_,rfl,ok_Int _,rfl⟩⟩
theorem cnt_Activ (l:List Activ) (k:Int):(markRow (rowF cmActivityS) (l.map Activ.av) k).2=k+cntS Activ.cnt l:=
 markRow_cnt (fun x k=>by simp only [rowF,cmActivityS,AV.cells,List.set,List.getElem?_cons_zero,List.getElem?_cons_succ,cnt_Mode,Activ.cnt];omega) l k
theorem ok_Activ (l:List Activ):∀x∈l.map Activ.av,seActivityS x:=by
 intro x hx
 obtain⟨y,_,rfl⟩:=List.mem_map.1 hx
 exact⟨_,rfl,⟨_,_,rfl,_,_,rfl,_,_,rfl,ok_Mode _,rfl⟩⟩
theorem cnt_Resrc (l:List Resrc) (k:Int):(markRow (rowF cmResourceS) (l.map Resrc.av) k).2=k+cntS Resrc.cnt l:=
 markRow_cnt (fun x k=>by simp only [rowF,cmResourceS,AV.cells,List.set,List.getElem?_cons_zero,List.getElem?_cons_succ,cnt_Step,cnt_Ints,Resrc.cnt,cnt_steps];omega) l k
theorem ok_Resrc (l:List Resrc):∀x∈l.map Resrc.av,seResourceS x:=by
 intro x hx
 obtain⟨y,_,rfl⟩:=List.mem_map.1 hx
 exact⟨_,rfl,⟨_,_,rfl,ok_Step _,_,_,rfl,ok_Ints _,rfl⟩⟩
abbrev Proj.cellsOf (x:Proj):List AV:=[i64 x.dead,.sl (x.acts.map Activ.av),.sl (x.links.map Link.av),.sl (x.ress.map Resrc.av),ints x.stocks]
theorem laws_mheldProject (x:Proj) (n:Int) (hn:0≤n∧n+x.cnt≤4611686018427387904):Con 84 [.d (.agg (rowF cmProject x.cellsOf n).1),.d (i64 n)] (.d (i64 (n+x.cnt))):=by
 refine con Tryz.func84 rfl rfl Tryz.call84 rfl fun hwf=>?_
 have h1:=cnt_nonneg (f:=Activ.cnt) (l:=x.acts) (fun x _=>x.cnt_nn)
 have h2:=cnt_nonneg (f:=Link.cnt) (l:=x.links) (fun x _=>x.cnt_nn)
 have h3:=cnt_nonneg (f:=Resrc.cnt) (l:=x.ress) (fun x _=>x.cnt_nn)
 have he:x.cnt=cntS Activ.cnt x.acts+cntS Link.cnt x.links+cntS Resrc.cnt x.ress+x.stocks.length:=rfl
 have e1:=cnt_Activ x.acts n
 have e2:=cnt_Link x.links (n+cntS Activ.cnt x.acts)
 have e3:=cnt_Resrc x.ress (n+cntS Activ.cnt x.acts+cntS Link.cnt x.links)
 have e4:=cnt_Int x.stocks (n+cntS Activ.cnt x.acts+cntS Link.cnt x.links+cntS Resrc.cnt x.ress)
 have H1:=laws_mheldActivityS (x.acts.map Activ.av) n (by omega) (ok_Activ _) (by omega)
 have H2:=laws_mheldLinkS (x.links.map Link.av) (n+cntS Activ.cnt x.acts) (by omega) (ok_Link _) (by omega)
 have H3:=laws_mheldResourceS (x.ress.map Resrc.av) (n+cntS Activ.cnt x.acts+cntS Link.cnt x.links) (by omega) (ok_Resrc _) (by omega)
 have H4:=laws_mheldIntS (x.stocks.map i64) (n+cntS Activ.cnt x.acts+cntS Link.cnt x.links+cntS Resrc.cnt x.ress) (by omega) (ok_Int _) (by omega)
 have ee:(rowF cmProject x.cellsOf n).1= [i64 x.dead,.sl (markRow (rowF cmActivityS) (x.acts.map Activ.av) n).1,.sl (markRow (rowF cmLinkS) (x.links.map Link.av) (n+cntS Activ.cnt x.acts)).1,.sl (markRow (rowF cmResourceS) (x.ress.map Resrc.av) (n+cntS Activ.cnt x.acts+cntS Link.cnt x.links)).1,.sl (markRow (rowF cmIntS) (x.stocks.map i64) (n+cntS Activ.cnt x.acts+cntS Link.cnt x.links+cntS Resrc.cnt x.ress)).1]:=by
  simp only [rowF,cmProject,List.set,List.getElem?_cons_zero,List.getElem?_cons_succ,e1,e2,e3]
 rw [ee]
 rw [e1] at H1
 rw [e2] at H2
 rw [e3] at H3
 rw [e4] at H4
 (repeat' ((conv=>whnf);first | with_reducible refine Br.no (decide_eq_false (by omega)) ?_ | refine gA ?_ | (refine gB ?_ ?_ <;> intro h) | refine gC (H1) ?_ | refine gC (H2) ?_ | refine gC (H3) ?_ | refine gC (H4) ?_ | intro _)) <;> try (conv=>whnf)
 refine⟨?_,rfl,trivial⟩
 exact congrArg (AV.int .i64) (by omega)
abbrev Lg.sh (x:Lg):AV:=.agg [.any,.sl (x.proj.acts.map Activ.sh),.sl (x.proj.links.map Link.sh),.sl (x.proj.ress.map Resrc.sh),shI x.proj.stocks,shI x.dom.lo,shI x.dom.hi,.sl (x.dom.modes.map shI),.sl (x.decs.map Lit.sh),.sl (x.lines.map Lin.sh)]
abbrev Lg.cnt (x:Lg):Int:=x.proj.cnt+x.dom.cnt+cntS Lit.cnt x.decs+cntS Lin.cnt x.lines
theorem Lg.cnt_nn (x:Lg):0≤x.cnt:=by
 have h1:=cnt_nonneg (f:=Lit.cnt) (l:=x.decs) (fun x _=>x.cnt_nn)
 have h2:=cnt_nonneg (f:=Lin.cnt) (l:=x.lines) (fun x _=>x.cnt_nn)
 have h3:=x.proj.cnt_nn
 have h4:=x.dom.cnt_nn
 unfold Lg.cnt;omega
theorem Lg.sh_eq (x:Lg):x.av.shape=x.sh:=by
 simp only [AV.shape,AV.shapes]
 rw [show AV.sl (AV.shapes (x.proj.acts.map Activ.av))= .sl (x.proj.acts.map Activ.sh) from Abs.sh_eq Activ.sh_eq x.proj.acts,show AV.sl (AV.shapes (x.proj.links.map Link.av))= .sl (x.proj.links.map Link.sh) from Abs.sh_eq Link.sh_eq x.proj.links,
  show AV.sl (AV.shapes (x.proj.ress.map Resrc.av))= .sl (x.proj.ress.map Resrc.sh) from Abs.sh_eq Resrc.sh_eq x.proj.ress,show AV.sl (AV.shapes (x.proj.stocks.map i64))=shI x.proj.stocks from shI_eq x.proj.stocks,
  show AV.sl (AV.shapes (x.dom.lo.map i64))=shI x.dom.lo from shI_eq x.dom.lo,show AV.sl (AV.shapes (x.dom.hi.map i64))=shI x.dom.hi from shI_eq x.dom.hi,show AV.sl (AV.shapes (x.dom.modes.map ints))= .sl (x.dom.modes.map shI) from Abs.sh_eq shI_eq x.dom.modes,
  show AV.sl (AV.shapes (x.decs.map Lit.av))= .sl (x.decs.map Lit.sh) from Abs.sh_eq Lit.sh_eq x.decs,show AV.sl (AV.shapes (x.lines.map Lin.av))= .sl (x.lines.map Lin.sh) from Abs.sh_eq Lin.sh_eq x.lines]
theorem Lg_md (x:Lg):x.av.md false=true:=by
 simp only [AV.md,AV.mds]
 exact and2 rfl (and2 (mdS Activ_md x.proj.acts) (and2 (mdS Link_md x.proj.links) (and2 (mdS Resrc_md x.proj.ress) (and2 (ints_md x.proj.stocks) (and2 (ints_md x.dom.lo) (and2 (ints_md x.dom.hi) (and2 (mdS ints_md x.dom.modes) (and2 (lits_md x.decs) (and2 (mdS Lin_md x.lines) rfl)))))))))
theorem laws_markLog (x:Lg) (n:Int) (hn:0≤n∧n+x.cnt≤4611686018427387904):Con 25 [.old x.sh,.d (i64 n)] (.d (i64 (n+x.cnt))):=by
 refine con Tryz.func25 rfl rfl Tryz.call25 rfl fun hwf=>?_
 have h1:=cnt_nonneg (f:=Lit.cnt) (l:=x.decs) (fun x _=>x.cnt_nn)
 have h2:=cnt_nonneg (f:=Lin.cnt) (l:=x.lines) (fun x _=>x.cnt_nn)
 have h3:=x.proj.cnt_nn
 have h4:=x.dom.cnt_nn
 have he:x.cnt=x.proj.cnt+x.dom.cnt+cntS Lit.cnt x.decs+cntS Lin.cnt x.lines:=rfl
 (repeat' ((conv=>whnf);first | refine gA ?_ | (refine gB ?_ ?_ <;> intro h) | refine gC (laws_markProject x.proj n (by omega)) ?_ | refine gC (laws_markDomain x.dom _ (by omega)) ?_ | refine gC (laws_markLiteralS x.decs _ (by omega)) ?_ | refine gC (laws_markLineS x.lines _ (by omega)) ?_ | intro _)) <;> try (conv=>whnf)
 refine⟨?_,rfl,trivial⟩
 exact congrArg (AV.int .i64) (by omega)
theorem laws_otoLog (x:Lg):Con 21 [.old x.av] (.d x.av):=by
 refine con Tryz.func21 rfl rfl Tryz.call21 rfl fun hwf=>?_
 (repeat' ((conv=>whnf);first | refine gA ?_ | (refine gB ?_ ?_ <;> intro h) | refine gC (laws_otoProject x.proj) ?_ | refine gC (laws_otoDomain x.dom) ?_ | refine gC (laws_otoLiteralS x.decs) ?_ | refine gC (laws_otoLineS x.lines) ?_ | intro _)) <;> try (conv=>whnf)
 exact⟨rfl,rfl,trivial⟩
theorem szLog_m (x:Lg) (n:Int) (h:0≤szLog x n):x.cnt≤5*(n - szLog x n)∧szLog x n≤n:=by
 unfold szLog at h ⊢
 obtain⟨h1,e1⟩:=szB_nn h;rw [e1] at h ⊢;(try dsimp only at h ⊢)
 obtain⟨h2,e2⟩:=szB_nn h;rw [e2] at h ⊢;(try dsimp only at h ⊢)
 obtain⟨h3,e3⟩:=szB_nn h;rw [e3] at h ⊢;(try dsimp only at h ⊢)
 obtain⟨h4,e4⟩:=szB_nn h;rw [e4] at h ⊢;(try dsimp only at h ⊢)
 have:=szProject_m _ _ h1;have:=szDomain_m _ _ h2;have:=szN_nn h3;have:=meas_S (f:=fun x n=>szLine x n) (c:=Lin.cnt) szLine_m h4
 have:=cnt_lits x.decs
 unfold Lg.cnt;omega
abbrev Lg.cellsOf (x:Lg):List AV:=[i64 x.proj.dead,.sl (x.proj.acts.map Activ.av),.sl (x.proj.links.map Link.av),.sl (x.proj.ress.map Resrc.av),ints x.proj.stocks,ints x.dom.lo,ints x.dom.hi,.sl (x.dom.modes.map ints),lits x.decs,.sl (x.lines.map Lin.av)]
theorem cnt_Log (x:Lg) (k:Int):(rowF cmLog x.cellsOf k).2=k+x.cnt:=by
 have he:x.cnt=cntS Activ.cnt x.proj.acts+cntS Link.cnt x.proj.links+cntS Resrc.cnt x.proj.ress+x.proj.stocks.length+(x.dom.lo.length+x.dom.hi.length+cntS (fun x=>(x.length:Int)) x.dom.modes)+3*x.decs.length+cntS Lin.cnt x.lines:=by
  have:=cnt_lits x.decs
  unfold Lg.cnt Proj.cnt Dom.cnt;omega
 simp only [rowF,cmLog,List.set,List.getElem?_cons_zero,List.getElem?_cons_succ,cnt_Activ,cnt_Link,cnt_Resrc,cnt_Int,cnt_Ints,cnt_Lit,cnt_Lin]
 omega
theorem ok_Log (x:Lg):okC okLog x.cellsOf:=⟨_,_,rfl,_,_,rfl,ok_Activ _,_,_,rfl,ok_Link _,_,_,rfl,ok_Resrc _,_,_,rfl,ok_Int _,_,_,rfl,ok_Int _,_,_,rfl,ok_Int _,_,_,rfl,ok_Ints _,_,_,rfl,ok_Lit _,_,_,rfl,ok_Lin _,rfl⟩
theorem laws_mheldLog (x:Lg) (n:Int) (hn:0≤n∧n+x.cnt≤4611686018427387904):Con 26 [.d (.agg (rowF cmLog x.cellsOf n).1),.d (i64 n)] (.d (i64 (n+x.cnt))):=by
 refine con Tryz.func26 rfl rfl Tryz.call26 rfl fun hwf=>?_
 have h1:=cnt_nonneg (f:=Lit.cnt) (l:=x.decs) (fun x _=>x.cnt_nn)
 have h2:=cnt_nonneg (f:=Lin.cnt) (l:=x.lines) (fun x _=>x.cnt_nn)
 have h3:=x.proj.cnt_nn
 have h4:=x.dom.cnt_nn
 have hl:=cnt_lits x.decs
 have he:x.cnt=x.proj.cnt+x.dom.cnt+cntS Lit.cnt x.decs+cntS Lin.cnt x.lines:=rfl
 have H1:=laws_mheldProject x.proj n (by omega)
 have H2:=laws_mheldDomain x.dom (n+x.proj.cnt) (by omega)
 have e3:=cnt_Lit x.decs (n+x.proj.cnt+x.dom.cnt)
 have e4:=cnt_Lin x.lines (n+x.proj.cnt+x.dom.cnt+3*x.decs.length)
 have H3:=laws_mheldLiteralS (x.decs.map Lit.av) (n+x.proj.cnt+x.dom.cnt) (by omega) (ok_Lit _) (by omega)
 have H4:=laws_mheldLineS (x.lines.map Lin.av) (n+x.proj.cnt+x.dom.cnt+3*x.decs.length) (by omega) (ok_Lin _) (by omega)
 have p1:=cnt_Activ x.proj.acts n
 have p2:=cnt_Link x.proj.links (n+cntS Activ.cnt x.proj.acts)
 have p3:=cnt_Resrc x.proj.ress (n+cntS Activ.cnt x.proj.acts+cntS Link.cnt x.proj.links)
 have p4:=cnt_Int x.proj.stocks (n+cntS Activ.cnt x.proj.acts+cntS Link.cnt x.proj.links+cntS Resrc.cnt x.proj.ress)
 have ep:n+x.proj.cnt=n+cntS Activ.cnt x.proj.acts+cntS Link.cnt x.proj.links+cntS Resrc.cnt x.proj.ress+x.proj.stocks.length:=by unfold Proj.cnt;omega
 have d1:=cnt_Int x.dom.lo (n+x.proj.cnt)
 have d2:=cnt_Int x.dom.hi (n+x.proj.cnt+x.dom.lo.length)
 have d3:=cnt_Ints x.dom.modes (n+x.proj.cnt+x.dom.lo.length+x.dom.hi.length)
 have ed:n+x.proj.cnt+x.dom.cnt=n+x.proj.cnt+x.dom.lo.length+x.dom.hi.length+cntS (fun x=>(x.length:Int)) x.dom.modes:=by unfold Dom.cnt;omega
 have ee:(rowF cmLog x.cellsOf n).1=(rowF cmProject x.proj.cellsOf n).1++(rowF cmDomain x.dom.cellsOf (n+x.proj.cnt)).1++[.sl (markRow (rowF cmLiteralS) (x.decs.map Lit.av) (n+x.proj.cnt+x.dom.cnt)).1,.sl (markRow (rowF cmLineS) (x.lines.map Lin.av) (n+x.proj.cnt+x.dom.cnt+3*x.decs.length)).1]:=by
  simp only [rowF,cmLog,cmProject,cmDomain,List.set,List.getElem?_cons_zero,List.getElem?_cons_succ,p1,p2,p3,p4, ← ep,d1,d2,d3, ← ed,e3,List.cons_append,List.nil_append]
 rw [ee]
 rw [e3] at H3
 rw [e4] at H4
 have g1:(rowF cmProject x.proj.cellsOf n).1= [i64 x.proj.dead,.sl (markRow (rowF cmActivityS) (x.proj.acts.map Activ.av) n).1,.sl (markRow (rowF cmLinkS) (x.proj.links.map Link.av) (n+cntS Activ.cnt x.proj.acts)).1,.sl (markRow (rowF cmResourceS) (x.proj.ress.map Resrc.av) (n+cntS Activ.cnt x.proj.acts+cntS Link.cnt x.proj.links)).1,.sl (markRow (rowF cmIntS) (x.proj.stocks.map i64) (n+cntS Activ.cnt x.proj.acts+cntS Link.cnt x.proj.links+cntS Resrc.cnt x.proj.ress)).1]:=by
  simp only [rowF,cmProject,List.set,List.getElem?_cons_zero,List.getElem?_cons_succ,p1,p2,p3]
 have g2:(rowF cmDomain x.dom.cellsOf (n+x.proj.cnt)).1= [.sl (markRow (rowF cmIntS) (x.dom.lo.map i64) (n+x.proj.cnt)).1,.sl (markRow (rowF cmIntS) (x.dom.hi.map i64) (n+x.proj.cnt+x.dom.lo.length)).1,.sl (markRow (rowF cmIntSS) (x.dom.modes.map ints) (n+x.proj.cnt+x.dom.lo.length+x.dom.hi.length)).1]:=by
  simp only [rowF,cmDomain,List.set,List.getElem?_cons_zero,List.getElem?_cons_succ,d1,d2]
 rw [g1] at H1 ⊢
 rw [g2] at H2 ⊢
 simp only [List.cons_append,List.nil_append]
 (repeat' ((conv=>whnf);first | with_reducible refine Br.no (decide_eq_false (by omega)) ?_ | refine gA ?_ | (refine gB ?_ ?_ <;> intro h) | refine gC (H1) ?_ | refine gC (H2) ?_ | refine gC (H3) ?_ | refine gC (H4) ?_ | intro _)) <;> try (conv=>whnf)
 refine⟨?_,rfl,trivial⟩
 exact congrArg (AV.int .i64) (by omega)
end Go.Proofs.YtfhojdalheinaaaGreat.Abs
