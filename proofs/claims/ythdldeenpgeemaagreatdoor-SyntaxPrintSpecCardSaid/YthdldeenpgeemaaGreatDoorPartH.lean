/- Chapter 13, the specification's parser: fractions, depth. -/
import Derived.Test.YthdldeenpgeemaaGreatDoorPartG
import Derived.Test.YthdldeenpgeemaaGreatDoorPart8
set_option maxHeartbeats 16000000
set_option maxRecDepth 100000
namespace Go.Proofs.YthdldeenpgeemaaGreatDoor
open Go Go.RowKit Go.Kx Go.Fr Go.Lx Go.Sx
variable {l:List TokD} {en:Nat} {p:Pst}
theorem Xhr (h:tst l isNum p=false):tst l zeroHere p=false:=by
 unfold tst at h ⊢
 cases hb:p.bad
 · rw [hb] at h
   cases hd:l.drop p.n with
   | nil=>rfl
   | cons t r=>
     rw [hd] at h
     have h2:decide (t.kind=2)=false:=by simpa [isNum] using h
     show (decide (t.kind=2)&&decide (t.n=0))=false
     rw [h2];rfl
 · rfl
theorem Xnt (h:tst l isNum p=true) (hn:p.n<l.length):tst l zeroHere p=decide (l[p.n].n=0):=by
 have hb:=U2 h
 unfold tst at h ⊢
 rw [hb,List.drop_eq_getElem_cons hn] at h ⊢
 have h2:decide (l[p.n].kind=2)=true:=h
 show (decide (l[p.n].kind=2)&&decide (l[p.n].n=0))=_
 rw [h2];rfl
theorem Xhs (hl:l.length≤70000) (hv:Va l) (hp:POk l p):FnC Tryz.prog 215 [agg (Vr l en p)] [] (fun q loc=>(∃x p',Step l en fracP p x p'∧q=tup [exI .i64 x.1,exI .i64 x.2,agg (Vr l en p')])∧loc=[]):=by
 refine X3 Tryz.func215 rfl Tryz.ntmps215 rfl fun w0 F0 out=>?_
 (repeat' (first|(apply Wa 3;refine StopW.out ?_)|(apply Wa 5;refine StopW.out ?_)|refine Xe ?_|refine Xb ?_|refine Xc ?_|(apply Xn;(first|exact Xf rfl|exact Xm rfl|exact Ybb|exact Ya1|exact Yaz);exact rfl)|refine Xs ?_|(apply Xh;exact rfl;first|(apply Xi;first|(refine Xq Tryz.func165 rfl (Qk hl Yaq) rfl ?_;rintro _ _ ⟨⟨x1,p1,hs,rfl⟩,rfl⟩;have hp1:=hs.ok)|(refine Xq Tryz.func163 rfl (Uk hl hv Yaq _ Yao) rfl ?_;rintro _ _ ⟨rfl,rfl⟩)|(refine Xq Tryz.func94 rfl (Ux hl hv Yaq _ Yao) rfl ?_;rintro _ _ ⟨⟨p1,hs,rfl⟩,rfl⟩;have hp1:=hs.ok))|(apply Vp;refine W4 rfl ?_;intro _)|(apply Wb;refine X8 ?_;intro _)|(apply Xt;refine Xj (k:=1) (l0:=[]) rfl rfl rfl ?_))|(refine Xp rfl (fun hb=>?_) (fun hb=>?_)<;>(repeat (first|replace hb:=W5 hb|replace hb:=W6 hb))<;>(try (exfalso;fail)))))
 · refine ⟨?_⟩
   have hE:Step l en fracP p (x1,1) p1:=hs.bnd (Step.ifF hb (Step.ret hp1))
   (refine Wt 4 rfl ?_)
   all_goals ((apply Xd 0 rfl Yaa rfl Yab Xa;(exact Xf rfl);exact rfl))
   all_goals ((apply Xv 1 rfl Yaa rfl Yaa Yab Xa;(exact Ya1);exact rfl))
   all_goals ((apply Xd 2 rfl Yaa rfl Yab Xa;(exact Xm rfl);exact rfl))
   all_goals ((apply Xd 3 rfl Yaa rfl Yab Xa;(exact Xm rfl);exact rfl))
   all_goals ((apply Xu 4;exact Yaa;exact rfl;exact Xa;exact (fun h=>absurd h Yao);(apply Xt;refine Xj (k:=0) (l0:=[]) rfl rfl rfl ?_)))
   all_goals (refine X9 Yaa ?_)
   all_goals ((repeat' (refine Xw ?_)))
   all_goals (exact Ya6)
 refine ⟨?_⟩
 rename_i b1 b4 q0 h0 k0
 revert p1
 intro q1 h1 k1
 have hsl:=hb
 refine X7 (env':=[(1,ex (.pointer (some ⟨b1,0,none⟩))),(4,ex (.pointer (some ⟨b4,0,none⟩))),(5,exI .i64 x1)]) (loc':=[row b4 65 5 [ex (.slice none 0 0),exI .i64 0,exI .i64 0,exB false,exI .i64 0],row b1 65 5 (Vr l en q1)]) (Xg (by repeat (first|exact Xr|refine Xl rfl ?_)) (List.Sublist.refl _)) ?_
 cases ht:tst l isNum q1
 · have hz:=Xhr ht
   have hI:FnC Tryz.prog 193 [agg (Vr l en q1)] [] (fun q loc=>q=exB false∧loc=[]):=by rw [←ht];exact Tt hl k1
   (repeat' (first|(apply Wa 8;refine StopW.out ?_)|refine Xe ?_|refine Xb ?_|refine Xc ?_|(apply Xn;(first|exact Xf rfl|exact Xm rfl|exact Wd (b:=false) rfl (fun e=>by cases e) (fun _=>rfl)|exact Ybb|exact Ya1);exact rfl)|(refine Wv rfl rfl rfl rfl rfl ?_)|refine Xs ?_|refine Xy rfl ?_|(apply Xh;exact rfl;first|(apply Xi;first|(refine Xq Tryz.func193 rfl hI rfl ?_;rintro _ _ ⟨rfl,rfl⟩)|(refine Xq Tryz.func165 rfl (Qk hl Yaq) rfl ?_;rintro _ _ ⟨⟨x2,q2,h2,rfl⟩,rfl⟩;have k2:=h2.ok))|(apply Xt;refine Xj (k:=1) (l0:=[]) rfl rfl rfl ?_))))
   all_goals (try (exfalso;first|contradiction|(simp_all;done)))
   refine ⟨?_⟩
   have hE:Step l en fracP p (x1,x2) q2:=h0.bnd (Step.ifT hsl (h1.bnd (Step.ifF hz (h2.bnd (Step.ret k2)))))
   (refine Wt 5 rfl ?_)
   all_goals ((apply Xd 0 rfl Yaa rfl Yab Xa;(exact Xf rfl);exact rfl))
   all_goals ((apply Xd 1 rfl Yaa rfl Yab Xa;(exact Xf rfl);exact rfl))
   all_goals ((apply Xv 2 rfl Yaa rfl Yaa Yab Xa;(exact Ya1);exact rfl))
   all_goals ((apply Xd 3 rfl Yaa rfl Yab Xa;(exact Xm rfl);exact rfl))
   all_goals ((apply Xd 4 rfl Yaa rfl Yab Xa;(exact Xm rfl);exact rfl))
   all_goals ((apply Xu 5;exact Yaa;exact rfl;exact Xa;exact (fun h=>absurd h Yao);(apply Xt;refine Xj (k:=0) (l0:=[]) rfl rfl rfl ?_)))
   all_goals (refine X9 Yaa ?_)
   all_goals ((repeat' (refine Xw ?_)))
   all_goals (exact Ya6)
 · have hlt:q1.n<l.length:=(Step.num (en:=en) k1 ht).1
   have hze:=Xnt ht hlt
   have hn1:=k1.n
   have hI:FnC Tryz.prog 193 [agg (Vr l en q1)] [] (fun q loc=>q=exB true∧loc=[]):=by rw [←ht];exact Tt hl k1
   by_cases hz0:l[q1.n].n=0
   · rw [decide_eq_true hz0] at hze
     have hE:Step l en fracP p (x1,0) (q1.fail l en):=h0.bnd (Step.ifT hsl (h1.bnd (Step.ifT hze (Step.fail k1))))
     (repeat' (first|refine Xe ?_|refine Xb ?_|refine Xc ?_|(apply Xn;(first|exact Xf rfl|exact Xm rfl|exact Wd (b:=true) rfl (fun _=>rfl) (fun e=>by cases e)|exact Ya1);exact rfl)|(apply W0;exact rfl;exact rfl;exact rfl;exact Ye1;exact rfl)|refine Xw ?_|(apply Xh;exact rfl;first|(apply Xi;first|(refine Xq Tryz.func193 rfl hI rfl ?_;rintro _ _ ⟨rfl,rfl⟩)|(refine Xq Tryz.func103 rfl (Uj hl Yaq) rfl ?_;rintro _ _ ⟨rfl,rfl⟩))|(apply Xt;refine Xj (k:=0) (l0:=[]) rfl rfl rfl ?_))|(refine Xp rfl (fun hb=>?_) (fun hb=>?_)<;>(repeat (first|replace hb:=Xz hb|replace hb:=X0 hb))<;>(try (exfalso;contradiction)))))
     all_goals (try (exfalso;first|contradiction|(simp_all;done)))
     all_goals (exact Ya6)
   · rw [decide_eq_false hz0] at hze
     (repeat' (first|(apply Wa 8;refine StopW.out ?_)|refine Xe ?_|refine Xb ?_|refine Xc ?_|(apply Xn;(first|exact Xf rfl|exact Xm rfl|exact Wd (b:=true) rfl (fun _=>rfl) (fun e=>by cases e)|exact Ybb|exact Ya1);exact rfl)|(apply W0;exact rfl;exact rfl;exact rfl;exact Ye1;exact rfl)|refine Xs ?_|(apply Xh;exact rfl;first|(apply Xi;first|(refine Xq Tryz.func193 rfl hI rfl ?_;rintro _ _ ⟨rfl,rfl⟩)|(refine Xq Tryz.func165 rfl (Qk hl Yaq) rfl ?_;rintro _ _ ⟨⟨x2,q2,h2,rfl⟩,rfl⟩;have k2:=h2.ok))|(apply Xt;refine Xj (k:=1) (l0:=[]) rfl rfl rfl ?_))|(refine Xp rfl (fun hb=>?_) (fun hb=>?_)<;>(repeat (first|replace hb:=Xz hb|replace hb:=X0 hb))<;>(try (exfalso;contradiction)))))
     all_goals (try (exfalso;first|contradiction|(simp_all;done)))
     refine ⟨?_⟩
     have hE:Step l en fracP p (x1,x2) q2:=h0.bnd (Step.ifT hsl (h1.bnd (Step.ifF hze (h2.bnd (Step.ret k2)))))
     (refine Wt 5 rfl ?_)
     all_goals ((apply Xd 0 rfl Yaa rfl Yab Xa;(exact Xf rfl);exact rfl))
     all_goals ((apply Xd 1 rfl Yaa rfl Yab Xa;(exact Xf rfl);exact rfl))
     all_goals ((apply Xv 2 rfl Yaa rfl Yaa Yab Xa;(exact Ya1);exact rfl))
     all_goals ((apply Xd 3 rfl Yaa rfl Yab Xa;(exact Xm rfl);exact rfl))
     all_goals ((apply Xd 4 rfl Yaa rfl Yab Xa;(exact Xm rfl);exact rfl))
     all_goals ((apply Xu 5;exact Yaa;exact rfl;exact Xa;exact (fun h=>absurd h Yao);(apply Xt;refine Xj (k:=0) (l0:=[]) rfl rfl rfl ?_)))
     all_goals (refine X9 Yaa ?_)
     all_goals ((repeat' (refine Xw ?_)))
     all_goals (exact Ya6)
theorem Qs (hl:l.length≤70000) (hp:POk l p) (d:Nat) (hd:d≤17):FnC Tryz.prog 216 [agg (Vr l en p),exI .i64 (d:Int)] [] (fun q loc=>(∃p',(d<16→p'=p)∧(16≤d→p'=p.fail l en)∧q=agg (Vr l en p'))∧loc=[]):=by
 refine X3 Tryz.func216 rfl Tryz.ntmps216 rfl fun w0 F0 out=>?_
 by_cases h16:d<16
 · (repeat' (first|refine Xe ?_|refine Xb ?_|refine Xc ?_|(apply Xn;(first|exact Xf rfl|exact Ya1|(apply Vx;exact Qy rfl rfl));exact rfl)|refine Xs ?_|refine Xw ?_|(apply Xh;exact rfl;first|(apply Vp;refine W4 rfl ?_;intro _)|(apply Wb;refine X8 ?_;intro _)|(apply Xt;refine Xj (k:=0) (l0:=[]) rfl rfl rfl ?_))|(refine Xp rfl (fun hb=>?_) (fun hb=>?_)<;>(repeat (first|replace hb:=Xz hb|replace hb:=X0 hb))<;>(try (exfalso;omega)))))
   all_goals (try (exfalso;first|contradiction|omega))
   all_goals (first|exact ⟨.inr rfl,Vd rfl (.cella (k:=0) rfl rfl rfl rfl inferInstance rfl) (List.nil_sublist _) ⟨⟨p,fun _=>rfl,fun h=>absurd h Yan,rfl⟩,rfl⟩⟩|exact ⟨.inr rfl,Vd rfl (.cella (k:=1) rfl rfl rfl rfl inferInstance rfl) (List.nil_sublist _) ⟨⟨p,fun _=>rfl,fun h=>absurd h Yan,rfl⟩,rfl⟩⟩)
 · (repeat' (first|refine Xe ?_|refine Xb ?_|refine Xc ?_|(apply Xn;(first|exact Xf rfl|exact Ya1|(apply Vx;exact Qy rfl rfl));exact rfl)|refine Xw ?_|(apply Xh;exact rfl;first|(apply Xi;(refine Xq Tryz.func103 rfl (Uj hl Yaq) rfl ?_;rintro _ _ ⟨rfl,rfl⟩))|(apply Vp;refine W4 rfl ?_;intro _)|(apply Wb;refine X8 ?_;intro _)|(apply Xt;refine Xj (k:=0) (l0:=[]) rfl rfl rfl ?_))|(refine Xp rfl (fun hb=>?_) (fun hb=>?_)<;>(repeat (first|replace hb:=Xz hb|replace hb:=X0 hb))<;>(try (exfalso;omega)))))
   all_goals (try (exfalso;first|contradiction|omega))
   all_goals (first|exact ⟨.inr rfl,Vd rfl (.cella (k:=0) rfl rfl rfl rfl inferInstance rfl) (List.nil_sublist _) ⟨⟨p.fail l en,fun h=>absurd h Yan,fun _=>rfl,rfl⟩,rfl⟩⟩|exact ⟨.inr rfl,Vd rfl (.cella (k:=1) rfl rfl rfl rfl inferInstance rfl) (List.nil_sublist _) ⟨⟨p.fail l en,fun h=>absurd h Yan,fun _=>rfl,rfl⟩,rfl⟩⟩)
end Go.Proofs.YthdldeenpgeemaaGreatDoor
namespace Go.Sx
open Go.Lx Go.Fr
def TD (d:Nat):List TokD→Res Ex:=if d≤16 then termN (16-d) else fun ts=> .error ts
def ED (d:Nat):List TokD→Res Ex:=if d≤16 then Ty (16-d) else fun ts=> .error ts
theorem Xrm {d:Nat} (h:d≤16):TD d=Xes (decide (d<16)) (TD (d+1)) (ED (d+1)):=by
 unfold TD ED
 rw [if_pos h]
 by_cases h2:d<16
 · rw [decide_eq_true h2,if_pos Yan,if_pos Yan,show 16-d=(16-(d+1))+1 by omega];rfl
 · have:d=16:=by omega
   subst this
   rw [decide_eq_false h2,if_neg Yan,if_neg Yan];rfl
theorem Xrn {d:Nat} (h:d≤16):ED d=Xaj (TD d):=by unfold ED TD;rw [if_pos h,if_pos h];rfl
theorem Step.keep {α:Type} {l:List TokD} {en:Nat} {g:List TokD→Res α} {p p1:Pst} {x:α} {d:Nat} (h:Step l en g p x p1) (hc:d≤16∨p.bad=true):d≤16∨p1.bad=true:=hc.imp_right fun hb=>by rw [h.bad hb];exact hb
theorem Qt {l:List TokD} {en:Nat} {p p':Pst} {d:Nat} (hp:POk l p) (h1:d<16→p'=p) (h2:16≤d→p'=p.fail l en):Step l en (gate (decide (d<16)) (ret ())) p () p':=by
 by_cases h:d<16
 · rw [decide_eq_true h,h1 h];exact Step.ret hp
 · rw [decide_eq_false h,h2 Yan];exact Step.fail hp
theorem Xnu {l:List TokD} {en:Nat} {p:Pst}:(p.fail l en).bad=true:=by
 unfold Pst.fail
 cases hb:p.bad
 · rfl
 · exact hb
theorem Qu {l:List TokD} {en:Nat} {p p':Pst} {d:Nat} (h2:16≤d→p'=p.fail l en):d+1≤16∨p'.bad=true:=by
 by_cases h:d<16
 · exact .inl h
 · exact .inr (by rw [h2 Yan];exact Xnu)
end Go.Sx
namespace Go.Proofs.YthdldeenpgeemaaGreatDoor
open Go Go.RowKit Go.Kx Go.Fr Go.Lx Go.Sx
variable {l:List TokD} {en:Nat} {p:Pst}
def Xak (f:FuncId) (g:List TokD→Res Ex) (d:Nat):Prop:= ∀(l:List TokD) (en:Nat) (p:Pst),l.length≤70000→Va l→POk l p→d≤16∨p.bad=true→FnC Tryz.prog f [agg (Vr l en p),exI .i64 (d:Int)] [] (fun q loc=>(∃k x p',Step l en g p x p'∧q=tup [agg (exV k x),agg (Vr l en p')])∧loc=[])
theorem Xpj (hl:l.length≤70000) (hv:Va l) (hp:POk l p) (kd:Int) (d:Nat) (hc:d≤16∨p.bad=true) (hx:Xak 164 (ED d) d):FnC Tryz.prog 230 [agg (Vr l en p),exI .i64 kd,exI .i64 (d:Int)] [] (fun q loc=>(∃k x p',Step l en (Xa1 (ED d) kd) p x p'∧q=tup [agg (exV k x),agg (Vr l en p')])∧loc=[]):=by
 refine X3 Tryz.func230 rfl Tryz.ntmps230 rfl fun w0 F0 out=>?_
 (repeat' (first|(apply Wa 2;refine StopW.out ?_)|refine Xe ?_|refine Xb ?_|refine Xc ?_|(apply Xn;(first|exact Xf rfl|exact Ybb|exact Ybk);exact rfl)|(apply Xh;exact rfl;first|(apply Xi;first|(refine Xq Tryz.func94 rfl (Ux hl hv Yaq _ Yao) rfl ?_;rintro _ _ ⟨⟨p1,hs,rfl⟩,rfl⟩;have hp1:=hs.ok;have hc1:=Step.keep (d:=d) hs Yaq)|(refine Xq Tryz.func164 rfl (hx l en _ hl hv Yaq Yaq) rfl ?_;rintro _ _ ⟨⟨k1,x1,p1,hs,rfl⟩,rfl⟩;have hp1:=hs.ok;have hc1:=Step.keep (d:=d) hs Yaq))|(apply Vp;refine W4 rfl ?_;intro _)|(apply Wb;refine X8 ?_;intro _)|(apply Xt;first|refine Xj (k:=0) (l0:=[]) rfl rfl rfl ?_|refine Xj (k:=3) (l0:=[]) rfl rfl rfl ?_))))
 refine ⟨?_⟩
 rename_i b3 b6 b7 q0 h0 g0 c0 b8
 revert k1 x1 p1
 intro kx x q1 h1 g1 c1
 refine X7 (env':=[(1,exI .i64 kd),(2,exI .i64 (d:Int)),(3,ex (.pointer (some ⟨b3,0,none⟩))),(6,ex (.pointer (some ⟨b6,0,none⟩))),(7,ex (.pointer (some ⟨b7,0,none⟩))),(8,ex (.pointer (some ⟨b8,0,none⟩)))]) (loc':=[row b8 52 5 (exV kx x),row b7 65 5 [ex (.slice none 0 0),exI .i64 0,exI .i64 0,exB false,exI .i64 0],row b6 52 5 [exI .i64 0,exT [],exI .i64 0,exI .i64 0,ex (.slice none 0 0)],row b3 65 5 (Vr l en q1)]) (Xg (by repeat (first|exact Xr|refine Xl rfl ?_)) (List.Sublist.refl _)) ?_
 (repeat' (first|(apply W2 3;refine StopW.out ?_)|refine Xb ?_|refine Xc ?_|(apply Xn;(first|exact Xf rfl|exact Ybb|exact Ya2);exact rfl)|(apply Xh;exact rfl;first|(apply Xi;first|(refine Xq Tryz.func94 rfl (Ux hl hv Yaq _ Yao) rfl ?_;rintro _ _ ⟨⟨p1,hs,rfl⟩,rfl⟩;have hp1:=hs.ok;have hc1:=Step.keep (d:=d) hs Yaq)|(refine Xq Tryz.func164 rfl (hx l en _ hl hv Yaq Yaq) rfl ?_;rintro _ _ ⟨⟨k1,x1,p1,hs,rfl⟩,rfl⟩;have hp1:=hs.ok;have hc1:=Step.keep (d:=d) hs Yaq))|(apply Wb;refine X8 ?_;intro _)|(apply Xt;first|refine Xj (k:=0) (l0:=[]) rfl rfl rfl ?_|refine Xj (k:=4) (l0:=[]) rfl rfl rfl ?_))))
 refine ⟨?_⟩
 rename_i q2 h2 g2 c2 b9
 revert k1 x1 p1
 intro ky y q3 h3 g3 c3
 refine X7 (env':=[(1,exI .i64 kd),(2,exI .i64 (d:Int)),(3,ex (.pointer (some ⟨b3,0,none⟩))),(6,ex (.pointer (some ⟨b6,0,none⟩))),(7,ex (.pointer (some ⟨b7,0,none⟩))),(8,ex (.pointer (some ⟨b8,0,none⟩))),(9,ex (.pointer (some ⟨b9,0,none⟩)))]) (loc':=[row b9 52 5 (exV ky y),row b8 52 5 (exV kx x),row b7 65 5 [ex (.slice none 0 0),exI .i64 0,exI .i64 0,exB false,exI .i64 0],row b6 52 5 [exI .i64 0,exT [],exI .i64 0,exI .i64 0,ex (.slice none 0 0)],row b3 65 5 (Vr l en q3)]) (Xg (by repeat (first|exact Xr|refine Xl rfl ?_)) (List.Sublist.refl _)) ?_
 refine Xaq 3 (fun z:Nat×Pst=>([(6,ex (.pointer (some ⟨b6,0,none⟩))),(7,ex (.pointer (some ⟨b7,0,none⟩)))],[row z.1 52 10 (exV kx x++exV ky y),row b7 65 5 (Vr l en z.2),row b6 52 5 [exI .i64 kd,exT [],exI .i64 0,exI .i64 0,ex (.slice (some ⟨z.1,0,none⟩) 2 2)]])) (fun z=>Step l en (want sClose) q3 () z.2) ?_ fun z hz=>?_
 · skip
   (refine Wt 7 rfl ?_)
   (apply Xd 0 rfl Yaa rfl Yab Xa;(exact Xf rfl);exact rfl)
   (apply Xv 1 rfl Yaa rfl Yaa Yab Xa;(exact Ya1);exact rfl)
   (apply Xv 2 rfl Yaa rfl Yaa Yab Xa;(exact Ybg);exact rfl)
   (refine Uw (H2:=fun _=>True) 3 5 Yaa rfl Xa (fun _ _ h=>h) rfl Xa (fun _ _ _=>trivial) ?_ ?_)
   ·
     ((apply X5;(first|refine X6 rfl rfl ?_|refine Wi rfl Yac ?_|refine Ub rfl ?_);intro _))
     (apply Xd 4 rfl Yaa rfl Yab Xa;(exact Yay);exact rfl)
     (refine Xu (H':=fun _=>True) 5 Yaa rfl Xa (fun _ _ _=>trivial) ?_)
     ((apply Tm (H:=fun _=>True);((apply V6;exact Vk (k:=5) rfl rfl rfl));exact rfl))
     (refine Xu 6 Yaa rfl Xa (fun _ _ h=>h) ?_)
     ((apply Xi;(refine Xq Tryz.func94 rfl (Ux hl hv Yaq _ Yao) rfl ?_;rintro _ _ ⟨⟨p1,hs,rfl⟩,rfl⟩;have hp1:=hs.ok)))
     (refine Xu (H':=Tp []) 7 Yaa rfl Xa (fun h=>absurd h Yao) ?_)
     ((apply Xt;refine Xj (k:=4) (l0:=[]) rfl rfl rfl ?_))
     (refine Xu (H':=Tp []) 8 Yaa rfl Xa (fun h=>absurd h Yao) ?_)
     ((apply Xt;refine Xj (k:=3) (l0:=[]) rfl rfl rfl ?_))
     refine X9 Yaa ?_
     exact Wo (_,_) Yaq (Xg (by repeat (first|exact Xr|refine Xl rfl ?_)) Ydq)
   ·
     ((apply Tm (H:=fun _=>True);(exact Ybz);exact rfl))
     (refine Uw 3 6 Yaa rfl Xa (fun _ _ h=>h) rfl Xa (fun _ _ h=>h) ?_ ?_)
     ·
       ((apply X5;(first|refine X6 rfl rfl ?_|refine Wi rfl Yac ?_|refine Ub rfl ?_);intro _))
       (apply Xd 4 rfl Yaa rfl Yab Xa;(exact Yay);exact rfl)
       (refine Xu 6 Yaa rfl Xa (fun _ _ h=>h) ?_)
       ((apply Xi;(refine Xq Tryz.func94 rfl (Ux hl hv Yaq _ Yao) rfl ?_;rintro _ _ ⟨⟨p1,hs,rfl⟩,rfl⟩;have hp1:=hs.ok)))
       (refine Xu (H':=Tp []) 7 Yaa rfl Xa (fun h=>absurd h Yao) ?_)
       ((apply Xt;refine Xj (k:=4) (l0:=[]) rfl rfl rfl ?_))
       (refine Xu (H':=Tp []) 8 Yaa rfl Xa (fun h=>absurd h Yao) ?_)
       ((apply Xt;refine Xj (k:=3) (l0:=[]) rfl rfl rfl ?_))
       refine X9 Yaa ?_
       exact Wo (_,_) Yaq (Xg (by repeat (first|exact Xr|refine Xl rfl ?_)) Ydq)
     ·
       ((apply Xi;(refine Xq Tryz.func94 rfl (Ux hl hv Yaq _ Yao) rfl ?_;rintro _ _ ⟨⟨p1,hs,rfl⟩,rfl⟩;have hp1:=hs.ok)))
       (refine Xu 3 Yaa rfl Xa (fun _ _ h=>h) ?_)
       ((apply X5;(first|refine X6 rfl rfl ?_|refine Wi rfl Yac ?_|refine Ub rfl ?_);intro _))
       (apply Xd 4 rfl Yaa rfl Yab Xa;(exact Yay);exact rfl)
       (refine Xu (H':=Tp []) 7 Yaa rfl Xa (fun h=>absurd h Yao) ?_)
       ((apply Xt;refine Xj (k:=4) (l0:=[]) rfl rfl rfl ?_))
       (refine Xu (H':=Tp []) 8 Yaa rfl Xa (fun h=>absurd h Yao) ?_)
       ((apply Xt;refine Xj (k:=3) (l0:=[]) rfl rfl rfl ?_))
       refine X9 Yaa ?_
       exact Wo (_,_) Yaq (Xg (by repeat (first|exact Xr|refine Xl rfl ?_)) Ydq)
 obtain ⟨bs,q4⟩:=z
 have g4:=hz.ok
 simp only at hz g4 ⊢
 have hE:Step l en (Xa1 (ED d) kd) p (.mk kd [] 0 0 [x,y]) q4:=h0.bnd (h1.bnd (h2.bnd (h3.bnd (hz.bnd (Step.ret g4)))))
 refine X7 (Leads.trans (Vj (k:=0) (ps:=exV kx x++exV ky y) rfl (Tr (Tx (Nat.le_max_left kx ky) x) (Tx (Nat.le_max_right kx ky) y))) (Vu (k:=0) (sz:=5) (n:=2) (c:=2) rfl rfl rfl Yao Yao (Vi (j:=0) (k:=1) (i:=4) (E:=eEx (max kx ky)) [x,y] rfl rfl rfl rfl rfl rfl (hby:=by show 2 * 64≤_;decide)))) ?_
 (repeat' (refine Xw ?_))
 exact ⟨.inr rfl,S8 rfl (.cella (k:=1) rfl rfl rfl rfl inferInstance rfl) (.cella (k:=0) rfl rfl rfl rfl inferInstance rfl) (List.nil_sublist _) ⟨⟨max kx ky+1,_,_,hE,by rfl⟩,rfl⟩⟩
end Go.Proofs.YthdldeenpgeemaaGreatDoor
namespace Go.Sx
open Go.Lx Go.Fr
theorem Xpk {l:List TokD} {en:Nat} {p p':Pst} {x:Ex} {d:Nat} (hp:POk l p) (hc:d≤16∨p.bad=true) (h:Step l en (Xaj (TD d)) p x p'):Step l en (ED d) p x p':=by
 by_cases hd:d≤16
 · rw [Xrn hd];exact h
 · have hb:=hc.resolve_left hd
   rw [h.bad hb];exact Step.of_bad hp hb
theorem Xl9 (d:Nat):Lw TT (TD d):=by
 unfold TD
 split
 · exact Re _
 · exact lw_fail
theorem Xnv {l:List TokD} {p:Pst} {w w':List UInt8} (h:tst l (isT w) p=true) (hw:w≠w'):tst l (isT w') p=false:=by
 have hb:=U2 h
 unfold tst at h ⊢
 rw [hb] at h ⊢
 cases hd:l.drop p.n with
 | nil=>rfl
 | cons t r=>
   rw [hd] at h
   have h2:(decide (t.kind≠2)&&decide (t.text=w))=true:=h
   simp only [Bool.and_eq_true,decide_eq_true_eq] at h2
   show (decide (t.kind≠2)&&decide (t.text=w'))=false
   rw [decide_eq_false (fun e=>hw (h2.2.symm.trans e)),Bool.and_false]
theorem Xnw {l:List TokD} {p:Pst} (h1:tst l (isT sPlus) p=false) (h2:tst l (isT sMinus) p=false):tst l addT p=false:=by
 unfold tst addT at *
 cases hb:p.bad
 · rw [hb] at h1 h2
   simp only [Bool.not_false,Bool.true_and] at h1 h2 ⊢
   rw [h1,h2];rfl
 · rfl
theorem Xok {l:List TokD} {p:Pst} (h:tst l (isT sPlus) p=true∨tst l (isT sMinus) p=true):tst l addT p=true:=by
 unfold tst addT at *
 cases hb:p.bad
 · rw [hb] at h
   simp only [Bool.not_false,Bool.true_and] at h ⊢
   rcases h with h|h
   · rw [h];rfl
   · rw [h,Bool.or_true]
 · rw [hb] at h;simp at h
end Go.Sx
namespace Go.Proofs.YthdldeenpgeemaaGreatDoor
open Go Go.RowKit Go.Kx Go.Fr Go.Lx Go.Sx
theorem Xma (d:Nat) (hx:Xak 192 (TD d) d):Xak 164 (ED d) d:=by
 intro l en p hl hv hp hc
 refine X3 Tryz.func164 rfl Tryz.ntmps164 rfl fun w0 F0 out=>?_
 (repeat' (first|refine Xe ?_|refine Xb ?_|refine Xc ?_|(apply Xn;(first|exact Xf rfl|exact Ybb|exact Ybk);exact rfl)|refine Xo ?_|(apply Xh;exact rfl;first|(apply Xi;(refine Xq Tryz.func192 rfl (hx l en _ hl hv Yaq Yaq) rfl ?_;rintro _ _ ⟨⟨k1,x1,p1,hs,rfl⟩,rfl⟩;have hp1:=hs.ok;have hc1:=Step.keep (d:=d) hs Yaq))|(apply Vp;refine W4 rfl ?_;intro _)|(apply Wb;refine X8 ?_;intro _)|(apply Xt;first|refine Xj (k:=0) (l0:=[]) rfl rfl rfl ?_|refine Xj (k:=3) (l0:=[]) rfl rfl rfl ?_))))
 rename_i b2 b4 b5 b6
 revert k1 x1 p1
 intro k0 x0 q0 e0 g0 c0
 refine Ws (fun z:Nat×Ex×Pst=>([(1,exI .i64 (d:Int)),(2,ex (.pointer (some ⟨b2,0,none⟩))),(4,ex (.pointer (some ⟨b4,0,none⟩))),(5,ex (.pointer (some ⟨b5,0,none⟩))),(6,ex (.pointer (some ⟨b6,0,none⟩)))],[row b6 52 5 (exV z.1 z.2.1),row b5 65 5 [ex (.slice none 0 0),exI .i64 0,exI .i64 0,exB false,exI .i64 0],row b4 52 5 [exI .i64 0,exT [],exI .i64 0,exI .i64 0,ex (.slice none 0 0)],row b2 65 5 (Vr l en z.2.2)])) (fun z=>POk l z.2.2∧(d≤16∨z.2.2.bad=true)∧ ∀y r,Step l en (Q9 addT (U7 (TD d)) z.2.1) z.2.2 y r→Step l en (Xaj (TD d)) p y r) (fun z=>z.2.2.left l) (k0,x0,q0) ?_ ⟨g0,c0,fun y r h=>e0.bnd h⟩ fun z hz=>?_
 · exact Xg (by repeat (first|exact Xr|refine Xl rfl ?_)) (List.Sublist.refl _)
 obtain ⟨k,x,q⟩:=z
 obtain ⟨kq,cq,hinv⟩:=hz
 simp only at kq cq hinv ⊢
 cases h1:tst l (isT sPlus) q
 · cases h2:tst l (isT sMinus) q
   · have hP:FnC Tryz.prog 163 [agg (Vr l en q),exT sPlus] [] (fun r loc=>r=exB false∧loc=[]):=by rw [←h1];exact Uk hl hv kq _ Yao
     have hM:FnC Tryz.prog 163 [agg (Vr l en q),exT sMinus] [] (fun r loc=>r=exB false∧loc=[]):=by rw [←h2];exact Uk hl hv kq _ Yao
     (repeat' (first|(apply Wa 11;refine StopW.out ?_)|refine Xe ?_|refine Xb ?_|refine Xc ?_|(apply Xn;(first|exact Xf rfl|exact Wd (b:=false) rfl (fun e=>by cases e) (fun _=>rfl)|exact Ya2);exact rfl)|(apply W0;exact rfl;exact rfl;exact rfl;(exact Ya2);exact rfl)|refine Wm ?_|refine Xy rfl ?_|(apply Xh;exact rfl;(apply Xi;(refine Xq Tryz.func163 rfl hP rfl ?_;rintro _ _ ⟨rfl,rfl⟩)))|(apply Vm;exact rfl;exact rfl;exact rfl;exact rfl;(apply Xi;(refine Xq Tryz.func163 rfl hM rfl ?_;rintro _ _ ⟨rfl,rfl⟩)))))
     all_goals (try (exfalso;first|contradiction|(simp_all;done)))
     refine ⟨?_⟩
     have hE:=Xpk hp hc (hinv _ _ (Step.run_stop rfl (Ug (Xl9 d)) (Xnw h1 h2) kq))
     (refine Wt 2 rfl ?_)
     all_goals ((apply Xv 0 rfl Yaa rfl Yaa Yab Xa;(exact Ybg);exact rfl))
     all_goals (refine Uw (H2:=Tp []) 1 2 Yaa rfl Xa (fun _ _ _=>trivial) rfl Xa (fun h=>absurd h Yao) ?_ ?_;(apply Tm (H:=fun _=>True);(exact Ya2);exact rfl);(apply Xu 2;exact Yaa;exact rfl;exact Xa;exact (fun h=>absurd h Yao);((apply Xt;refine Xj (k:=2) (l0:=[]) rfl rfl rfl ?_)));rotate_left;((apply Xt;refine Xj (k:=2) (l0:=[]) rfl rfl rfl ?_));(apply Xu 1;exact Yaa;exact rfl;exact Xa;exact (fun _ _ _=>trivial);(apply Tm (H:=fun _=>True);(exact Ya2);exact rfl)))
     all_goals ((apply Xu 3;exact Yaa;exact rfl;exact Xa;exact (fun h=>absurd h Yao);(apply Xt;refine Xj (k:=1) (l0:=[]) rfl rfl rfl ?_)))
     all_goals (refine X9 Yaa ?_)
     all_goals ((repeat' (refine Xw ?_)))
     all_goals (exact ⟨.inr rfl,S8 rfl (.cella (k:=2) rfl rfl rfl rfl inferInstance rfl) (.cella (k:=1) rfl rfl rfl rfl inferInstance rfl) (List.nil_sublist _) ⟨⟨_,_,_,hE,by rfl⟩,rfl⟩⟩)
   have hgo:=Xok (.inr h2)
   have hP:FnC Tryz.prog 163 [agg (Vr l en q),exT sPlus] [] (fun r loc=>r=exB false∧loc=[]):=by rw [←h1];exact Uk hl hv kq _ Yao
   have hM:FnC Tryz.prog 163 [agg (Vr l en q),exT sMinus] [] (fun r loc=>r=exB true∧loc=[]):=by rw [←h2];exact Uk hl hv kq _ Yao
   (repeat' (first|(apply Wa 9;refine StopW.out ?_)|refine Xe ?_|refine Xb ?_|refine Xc ?_|(apply Xn;(first|exact Xf rfl|exact Xm rfl|exact Wd (b:=false) rfl (fun e=>by cases e) (fun _=>rfl)|exact Ybb|exact Ya2);exact rfl)|(apply W0;exact rfl;exact rfl;exact rfl;(exact Ya2);exact rfl)|refine Xo ?_|refine Xs ?_|refine Xx rfl ?_|(apply Xh;exact rfl;first|(apply Xi;first|(refine Xq Tryz.func163 rfl hP rfl ?_;rintro _ _ ⟨rfl,rfl⟩)|(refine Xq Tryz.func163 rfl hM rfl ?_;rintro _ _ ⟨rfl,rfl⟩)|(refine Xq Tryz.func94 rfl (Ux hl hv Yaq _ Yao) rfl ?_;rintro _ _ ⟨⟨p1,hs,rfl⟩,rfl⟩;have hp1:=hs.ok;have hc1:=Step.keep (d:=d) hs Yaq)|(refine Xq Tryz.func192 rfl (hx l en _ hl hv Yaq Yaq) rfl ?_;rintro _ _ ⟨⟨k1,x1,p1,hs,rfl⟩,rfl⟩;have hp1:=hs.ok;have hc1:=Step.keep (d:=d) hs Yaq))|(apply Wb;refine X8 ?_;intro _)|(apply Xt;first|refine Xj (k:=0) (l0:=[]) rfl rfl rfl ?_|refine Xj (k:=1) (l0:=[]) rfl rfl rfl ?_))|(apply Vm;exact rfl;exact rfl;exact rfl;exact rfl;(apply Xi;(refine Xq Tryz.func163 rfl hM rfl ?_;rintro _ _ ⟨rfl,rfl⟩)))))
   all_goals (try (exfalso;first|contradiction|(simp_all;done)))
   refine ⟨?_⟩
   rename_i q1 e1 g1 c1 b9 b10
   revert k1 x1 p1
   intro ky y q2 e2 g2 c2
   have hs:Step l en (U7 (TD d) x) q (.mk 7 [] 0 0 [x,y]) q2:=Step.ifF h1 (e1.bnd (e2.bnd (Step.ret g2)))
   have hlf:=Step.left (Ug (Xl9 d) x) hs (U2 hgo)
   refine X7 (env':=[(7,exI .i64 7),(9,ex (.pointer (some ⟨b9,0,none⟩))),(10,ex (.pointer (some ⟨b10,0,none⟩))),(1,exI .i64 (d:Int)),(2,ex (.pointer (some ⟨b2,0,none⟩))),(4,ex (.pointer (some ⟨b4,0,none⟩))),(5,ex (.pointer (some ⟨b5,0,none⟩))),(6,ex (.pointer (some ⟨b6,0,none⟩)))]) (loc':=[row b10 65 5 (Vr l en q2),row b9 52 5 (exV ky y),row b6 52 5 (exV k x),row b5 65 5 [ex (.slice none 0 0),exI .i64 0,exI .i64 0,exB false,exI .i64 0],row b4 52 5 [exI .i64 0,exT [],exI .i64 0,exI .i64 0,ex (.slice none 0 0)],row b2 65 5 (Vr l en q)]) (Xg (by repeat (first|exact Xr|refine Xl rfl ?_)) (List.Sublist.refl _)) ?_
   (repeat' (first|refine Xb ?_|refine Xc ?_|(apply Xn;(first|exact Xf rfl|exact Ydw|exact Yay);exact rfl)|(apply Xh;exact rfl;first|(apply Xt;first|refine Xj (k:=3) (l0:=[]) rfl rfl rfl ?_|refine Xj (k:=6) (l0:=[]) rfl rfl rfl ?_)|(apply X5;(refine Wi rfl Yac ?_);intro _))))
   rename_i b20
   refine ⟨(max k ky+1,.mk 7 [] 0 0 [x,y],q2),⟨g2,hs.keep cq,fun z r h=>hinv z r (Step.run_go rfl (Ug (Xl9 d)) hgo hs h)⟩,hlf,?_⟩
   refine Leads.trans (Vj (k:=0) (b:=b20) (T:=52) (tot:=10) (ps:=exV k x++exV ky y) rfl (Tr (Tx (Nat.le_max_left k ky) x) (Tx (Nat.le_max_right k ky) y))) ?_
   refine Vu (k:=0) (sz:=5) (n:=2) (c:=2) rfl rfl rfl Yao Yao ?_
   refine Leads.trans (Vi (j:=0) (k:=2) (i:=4) (E:=eEx (max k ky)) [x,y] rfl rfl rfl rfl rfl rfl (hby:=by show 2 * 64≤_;decide)) ?_
   exact Xg (by repeat (first|exact Xr|refine Xl rfl ?_)) (by exact .cons _ (.cons _ (.refl _)))
 · have h2:=Xnv (w':=sMinus) h1 Yao
   have hgo:=Xok (.inl h1)
   have hP:FnC Tryz.prog 163 [agg (Vr l en q),exT sPlus] [] (fun r loc=>r=exB true∧loc=[]):=by rw [←h1];exact Uk hl hv kq _ Yao
   have hM:FnC Tryz.prog 163 [agg (Vr l en q),exT sMinus] [] (fun r loc=>r=exB false∧loc=[]):=by rw [←h2];exact Uk hl hv kq _ Yao
   (repeat' (first|(apply Wa 9;refine StopW.out ?_)|refine Xe ?_|refine Xb ?_|refine Xc ?_|(apply Xn;(first|exact Xf rfl|exact Xm rfl|exact Wd (b:=true) rfl (fun _=>rfl) (fun e=>by cases e)|exact Ybb|exact Ya2);exact rfl)|(refine Wv rfl rfl rfl rfl rfl ?_)|refine Xo ?_|refine Xs ?_|refine Xx rfl ?_|refine Xy rfl ?_|(apply Xh;exact rfl;first|(apply Xi;first|(refine Xq Tryz.func163 rfl hP rfl ?_;rintro _ _ ⟨rfl,rfl⟩)|(refine Xq Tryz.func163 rfl hM rfl ?_;rintro _ _ ⟨rfl,rfl⟩)|(refine Xq Tryz.func94 rfl (Ux hl hv Yaq _ Yao) rfl ?_;rintro _ _ ⟨⟨p1,hs,rfl⟩,rfl⟩;have hp1:=hs.ok;have hc1:=Step.keep (d:=d) hs Yaq)|(refine Xq Tryz.func192 rfl (hx l en _ hl hv Yaq Yaq) rfl ?_;rintro _ _ ⟨⟨k1,x1,p1,hs,rfl⟩,rfl⟩;have hp1:=hs.ok;have hc1:=Step.keep (d:=d) hs Yaq))|(apply Wb;refine X8 ?_;intro _)|(apply Xt;first|refine Xj (k:=0) (l0:=[]) rfl rfl rfl ?_|refine Xj (k:=1) (l0:=[]) rfl rfl rfl ?_))))
   all_goals (try (exfalso;first|contradiction|(simp_all;done)))
   refine ⟨?_⟩
   rename_i q1 e1 g1 c1 b9 b10
   revert k1 x1 p1
   intro ky y q2 e2 g2 c2
   have hs:Step l en (U7 (TD d) x) q (.mk 6 [] 0 0 [x,y]) q2:=Step.ifT h1 (e1.bnd (e2.bnd (Step.ret g2)))
   have hlf:=Step.left (Ug (Xl9 d) x) hs (U2 hgo)
   refine X7 (env':=[(7,exI .i64 6),(9,ex (.pointer (some ⟨b9,0,none⟩))),(10,ex (.pointer (some ⟨b10,0,none⟩))),(1,exI .i64 (d:Int)),(2,ex (.pointer (some ⟨b2,0,none⟩))),(4,ex (.pointer (some ⟨b4,0,none⟩))),(5,ex (.pointer (some ⟨b5,0,none⟩))),(6,ex (.pointer (some ⟨b6,0,none⟩)))]) (loc':=[row b10 65 5 (Vr l en q2),row b9 52 5 (exV ky y),row b6 52 5 (exV k x),row b5 65 5 [ex (.slice none 0 0),exI .i64 0,exI .i64 0,exB false,exI .i64 0],row b4 52 5 [exI .i64 0,exT [],exI .i64 0,exI .i64 0,ex (.slice none 0 0)],row b2 65 5 (Vr l en q)]) (Xg (by repeat (first|exact Xr|refine Xl rfl ?_)) (List.Sublist.refl _)) ?_
   (repeat' (first|refine Xb ?_|refine Xc ?_|(apply Xn;(first|exact Xf rfl|exact Ydw|exact Yay);exact rfl)|(apply Xh;exact rfl;first|(apply Xt;first|refine Xj (k:=3) (l0:=[]) rfl rfl rfl ?_|refine Xj (k:=6) (l0:=[]) rfl rfl rfl ?_)|(apply X5;(refine Wi rfl Yac ?_);intro _))))
   rename_i b20
   refine ⟨(max k ky+1,.mk 6 [] 0 0 [x,y],q2),⟨g2,hs.keep cq,fun z r h=>hinv z r (Step.run_go rfl (Ug (Xl9 d)) hgo hs h)⟩,hlf,?_⟩
   refine Leads.trans (Vj (k:=0) (b:=b20) (T:=52) (tot:=10) (ps:=exV k x++exV ky y) rfl (Tr (Tx (Nat.le_max_left k ky) x) (Tx (Nat.le_max_right k ky) y))) ?_
   refine Vu (k:=0) (sz:=5) (n:=2) (c:=2) rfl rfl rfl Yao Yao ?_
   refine Leads.trans (Vi (j:=0) (k:=2) (i:=4) (E:=eEx (max k ky)) [x,y] rfl rfl rfl rfl rfl rfl (hby:=by show 2 * 64≤_;decide)) ?_
   exact Xg (by repeat (first|exact Xr|refine Xl rfl ?_)) (by exact .cons _ (.cons _ (.refl _)))
end Go.Proofs.YthdldeenpgeemaaGreatDoor
namespace Go.Proofs.YthdldeenpgeemaaGreatDoor
open Go Go.RowKit Go.Kx Go.Fr Go.Lx Go.Sx
def Xqm (d:Nat):Prop:=Xak 214 (Vc (decide (d<16)) (ED (d+1))) d
theorem Xpl (d:Nat) (hd:d≤16) (hF:Xqm d) (hT:Xak 192 (TD (d+1)) (d+1)):Xak 192 (TD d) d:=by
 intro l en p hl hv hp hc
 rw [Xrm hd]
 have hT2: ∀q,POk l q→d+1≤16∨q.bad=true→FnC Tryz.prog 192 [agg (Vr l en q),exI .i64 ((d:Int)+1)] [] (fun r loc=>(∃k x p',Step l en (TD (d+1)) q x p'∧r=tup [agg (exV k x),agg (Vr l en p')])∧loc=[]):=fun q a b=>by
   have:=hT l en q hl hv a b
   rwa [show ((d+1:Nat):Int)=(d:Int)+1 by omega] at this
 refine X3 Tryz.func192 rfl Tryz.ntmps192 rfl fun w0 F0 out=>?_
 cases h1:tst l isNum p
 · have hI:FnC Tryz.prog 193 [agg (Vr l en p)] [] (fun q loc=>q=exB false∧loc=[]):=by rw [←h1];exact Tt hl hp
   (repeat' (first|refine Xe ?_|refine Xb ?_|refine Xc ?_|(apply Xn;(first|exact Xf rfl|exact Ybb|exact Ybk|exact Yaz);exact rfl)|refine Xw ?_|refine Xx rfl ?_|(apply Xh;exact rfl;first|(apply Xi;first|(refine Xq Tryz.func193 rfl hI rfl ?_;rintro _ _ ⟨rfl,rfl⟩)|(refine Xq Tryz.func214 rfl (hF l en _ hl hv hp hc) rfl ?_;rintro _ _ ⟨⟨k1,x1,p1,hs,rfl⟩,rfl⟩;have hp1:=hs.ok))|(apply Vp;refine W4 rfl ?_;intro _)|(apply Wb;refine X8 ?_;intro _)|(apply Xt;first|refine Xj (k:=0) (l0:=[]) rfl rfl rfl ?_|refine Xj (k:=1) (l0:=[]) rfl rfl rfl ?_))))
   all_goals (try (exfalso;first|contradiction|(simp_all;done)))
   have hE:Step l en (Xes (decide (d<16)) (TD (d+1)) (ED (d+1))) p x1 p1:=Step.ifF h1 hs
   exact ⟨.inr rfl,S8 rfl (.cella (k:=1) rfl rfl rfl rfl inferInstance rfl) (.cella (k:=0) rfl rfl rfl rfl inferInstance rfl) (List.nil_sublist _) ⟨⟨_,_,_,hE,by rfl⟩,rfl⟩⟩
 have hI:FnC Tryz.prog 193 [agg (Vr l en p)] [] (fun q loc=>q=exB true∧loc=[]):=by rw [←h1];exact Tt hl hp
 (repeat' (first|(apply Wa 4;refine StopW.out ?_)|refine Xe ?_|refine Xb ?_|refine Xc ?_|(apply Xn;(first|exact Xf rfl|exact Xm rfl|exact Ybb|exact Ybk|exact Yaz);exact rfl)|refine Xs ?_|refine Xy rfl ?_|(apply Xh;exact rfl;first|(apply Xi;first|(refine Xq Tryz.func193 rfl hI rfl ?_;rintro _ _ ⟨rfl,rfl⟩)|(refine Xq Tryz.func215 rfl (Xhs hl hv hp) rfl ?_;rintro _ _ ⟨⟨x1,p1,hs,rfl⟩,rfl⟩;have hp1:=hs.ok))|(apply Vp;refine W4 rfl ?_;intro _)|(apply Wb;refine X8 ?_;intro _)|(apply Xt;refine Xj (k:=2) (l0:=[]) rfl rfl rfl ?_))))
 all_goals (try (exfalso;first|contradiction|(simp_all;done)))
 refine ⟨?_⟩
 rename_i b2 b4 b5
 revert x1 p1
 intro fr q1 e1 g1
 obtain ⟨fn,fd⟩:=fr
 refine X7 (env':=[(1,exI .i64 (d:Int)),(2,ex (.pointer (some ⟨b2,0,none⟩))),(4,ex (.pointer (some ⟨b4,0,none⟩))),(5,ex (.pointer (some ⟨b5,0,none⟩))),(6,exI .i64 fn),(7,exI .i64 fd)]) (loc':=[row b5 65 5 [ex (.slice none 0 0),exI .i64 0,exI .i64 0,exB false,exI .i64 0],row b4 52 5 [exI .i64 0,exT [],exI .i64 0,exI .i64 0,ex (.slice none 0 0)],row b2 65 5 (Vr l en q1)]) (Xg (by repeat (first|exact Xr|refine Xl rfl ?_)) (List.Sublist.refl _)) ?_
 cases h2:tst l (isT sStar) q1
 · have hP:FnC Tryz.prog 163 [agg (Vr l en q1),exT sStar] [] (fun r loc=>r=exB false∧loc=[]):=by rw [←h2];exact Uk hl hv g1 _ Yao
   (repeat' (first|(apply Wa 5;refine StopW.out ?_)|refine Xe ?_|refine Xb ?_|refine Xc ?_|(apply Xn;(first|exact Ybk|exact Yaz);exact rfl)|refine Xx rfl ?_|(apply Xh;exact rfl;(apply Xi;(refine Xq Tryz.func163 rfl hP rfl ?_;rintro _ _ ⟨rfl,rfl⟩)))))
   all_goals (try (exfalso;first|contradiction|(simp_all;done)))
   refine ⟨?_⟩
   have hE:Step l en (Xes (decide (d<16)) (TD (d+1)) (ED (d+1))) p (.mk 1 [] fn fd []) q1:=Step.ifT h1 (e1.bnd (Step.ifF h2 (Step.ret g1)))
   (refine Wt 4 rfl ?_)
   all_goals ((apply Xd 0 rfl Yaa rfl Yab Xa;(exact Xf rfl);exact rfl))
   all_goals ((apply Xd 1 rfl Yaa rfl Yab Xa;(exact Xf rfl);exact rfl))
   all_goals ((apply Xd 2 rfl Yaa rfl Yab Xa;(exact Yay);exact rfl))
   all_goals (refine Uw (H2:=Tp []) 3 4 Yaa rfl Xa (fun _ _ _=>trivial) rfl Xa (fun h=>absurd h Yao) ?_ ?_;(apply Tm (H:=fun _=>True);(exact Ybk);exact rfl);(apply Xu 4;exact Yaa;exact rfl;exact Xa;exact (fun h=>absurd h Yao);((apply Xt;refine Xj (k:=1) (l0:=[]) rfl rfl rfl ?_)));rotate_left;((apply Xt;refine Xj (k:=1) (l0:=[]) rfl rfl rfl ?_));(apply Xu 3;exact Yaa;exact rfl;exact Xa;exact (fun _ _ _=>trivial);(apply Tm (H:=fun _=>True);(exact Ybk);exact rfl)))
   all_goals ((apply Xu 5;exact Yaa;exact rfl;exact Xa;exact (fun h=>absurd h Yao);(apply Xt;refine Xj (k:=0) (l0:=[]) rfl rfl rfl ?_)))
   all_goals (refine X9 Yaa ?_)
   all_goals ((repeat' (refine Xw ?_)))
   all_goals (refine Tk (Vj (k:=1) rfl (Xbi 1 [] fn fd)) ?_)
   all_goals (exact ⟨.inr rfl,S8 rfl (.cella (k:=1) rfl rfl rfl rfl inferInstance rfl) (.cella (k:=0) rfl rfl rfl rfl inferInstance rfl) (List.nil_sublist _) ⟨⟨1,_,_,hE,by rfl⟩,rfl⟩⟩)
 have hP:FnC Tryz.prog 163 [agg (Vr l en q1),exT sStar] [] (fun r loc=>r=exB true∧loc=[]):=by rw [←h2];exact Uk hl hv g1 _ Yao
 (repeat' (first|(apply W2 7;refine StopW.out ?_)|refine Xe ?_|refine Xb ?_|refine Xc ?_|(apply Xn;(first|exact Xf rfl|exact Ybb|exact Ybk|exact Ya7|exact Yaz);exact rfl)|refine Xs ?_|refine Xy rfl ?_|(apply Xh;exact rfl;first|(apply Xi;first|(refine Xq Tryz.func163 rfl hP rfl ?_;rintro _ _ ⟨rfl,rfl⟩)|(refine Xq Tryz.func216 rfl (Qs hl Yaq d Yan) rfl ?_;rintro _ _ ⟨⟨p1,hd1,hd2,rfl⟩,rfl⟩;have hs:=Qt Yaq hd1 hd2;have hp1:=hs.ok;have hc1:=Qu hd2)|(refine Xq Tryz.func94 rfl (Ux hl hv Yaq _ Yao) rfl ?_;rintro _ _ ⟨⟨p1,hs,rfl⟩,rfl⟩;have hp1:=hs.ok;have hc1:=Step.keep (d:=d+1) hs Yaq)|(refine Xq Tryz.func192 rfl (hT2 _ Yaq Yaq) rfl ?_;rintro _ _ ⟨⟨k1,x1,p1,hs,rfl⟩,rfl⟩;have hp1:=hs.ok;have hc1:=Step.keep (d:=d+1) hs Yaq))|(apply Wb;refine X8 ?_;intro _)|(apply Xt;first|refine Xj (k:=0) (l0:=[]) rfl rfl rfl ?_|refine Xj (k:=3) (l0:=[]) rfl rfl rfl ?_))))
 all_goals (try (exfalso;first|contradiction|(simp_all;done)))
 refine ⟨?_⟩
 rename_i q2 s2 g2 c2 q3 s3 g3 c3 b8
 have hE:Step l en (Xes (decide (d<16)) (TD (d+1)) (ED (d+1))) p (.mk 8 [] fn fd [x1]) p1:=Step.ifT h1 (e1.bnd (Step.ifT h2 (Step.gate s2 (s3.bnd (hs.bnd (Step.ret hp1))))))
 refine X7 (env':=[(6,exI .i64 fn),(7,exI .i64 fd),(2,ex (.pointer (some ⟨b2,0,none⟩))),(4,ex (.pointer (some ⟨b4,0,none⟩))),(5,ex (.pointer (some ⟨b5,0,none⟩))),(8,ex (.pointer (some ⟨b8,0,none⟩)))]) (loc':=[row b8 52 5 (exV k1 x1),row b5 65 5 [ex (.slice none 0 0),exI .i64 0,exI .i64 0,exB false,exI .i64 0],row b4 52 5 [exI .i64 0,exT [],exI .i64 0,exI .i64 0,ex (.slice none 0 0)],row b2 65 5 (Vr l en p1)]) (Xg (by repeat (first|exact Xr|refine Xl rfl ?_)) (List.Sublist.refl _)) ?_
 refine Xaq 7 (fun bs:Nat=>([(4,ex (.pointer (some ⟨b4,0,none⟩))),(5,ex (.pointer (some ⟨b5,0,none⟩)))],[row bs 52 5 (exV k1 x1),row b5 65 5 (Vr l en p1),row b4 52 5 [exI .i64 8,exT [],exI .i64 fn,exI .i64 fd,ex (.slice (some ⟨bs,0,none⟩) 1 1)]])) (fun _=>True) ?_ fun bs _=>?_
 · skip
   (refine Wt 6 rfl ?_)
   (apply Xd 0 rfl Yaa rfl Yab Xa;(exact Xf rfl);exact rfl)
   (apply Xd 1 rfl Yaa rfl Yab Xa;(exact Xf rfl);exact rfl)
   (apply Xv 2 rfl Yaa rfl Yaa Yab Xa;(exact Ybg);exact rfl)
   (refine Uw (H2:=fun _=>True) 3 5 Yaa rfl Xa (fun _ _ h=>h) rfl Xa (fun _ _ _=>trivial) ?_ ?_)
   ·
     ((apply X5;(first|refine X6 rfl rfl ?_|refine Wi rfl Yac ?_|refine Ub rfl ?_);intro _))
     (apply Xd 4 rfl Yaa rfl Yab Xa;(exact Yay);exact rfl)
     (refine Uw (H1:=fun _=>True) (H2:=Tp []) 5 6 Yaa rfl Xa (fun _ _ _=>trivial) rfl Xa (fun h=>absurd h Yao) ?_ ?_)
     ·
       ((apply Tm (H:=fun _=>True);(exact Ybz);exact rfl))
       (refine Xu (H':=Tp []) 6 Yaa rfl Xa (fun h=>absurd h Yao) ?_)
       ((apply Xt;refine Xj (k:=3) (l0:=[]) rfl rfl rfl ?_))
       (refine Xu (H':=Tp []) 7 Yaa rfl Xa (fun h=>absurd h Yao) ?_)
       ((apply Xt;refine Xj (k:=2) (l0:=[]) rfl rfl rfl ?_))
       refine X9 Yaa ?_
       exact Wo _ trivial (Xg (by repeat (first|exact Xr|refine Xl rfl ?_)) Yd1)
     ·
       ((apply Xt;refine Xj (k:=3) (l0:=[]) rfl rfl rfl ?_))
       (refine Xu (H':=fun _=>True) 5 Yaa rfl Xa (fun _ _ _=>trivial) ?_)
       ((apply Tm (H:=fun _=>True);(exact Ybz);exact rfl))
       (refine Xu (H':=Tp []) 7 Yaa rfl Xa (fun h=>absurd h Yao) ?_)
       ((apply Xt;refine Xj (k:=2) (l0:=[]) rfl rfl rfl ?_))
       refine X9 Yaa ?_
       exact Wo _ trivial (Xg (by repeat (first|exact Xr|refine Xl rfl ?_)) Yd1)
   ·
     ((apply Tm (H:=fun _=>True);(exact Ya2);exact rfl))
     (refine Xu 3 Yaa rfl Xa (fun _ _ h=>h) ?_)
     ((apply X5;(first|refine X6 rfl rfl ?_|refine Wi rfl Yac ?_|refine Ub rfl ?_);intro _))
     (apply Xd 4 rfl Yaa rfl Yab Xa;(exact Yay);exact rfl)
     (refine Xu (H':=Tp []) 6 Yaa rfl Xa (fun h=>absurd h Yao) ?_)
     ((apply Xt;refine Xj (k:=3) (l0:=[]) rfl rfl rfl ?_))
     (refine Xu (H':=Tp []) 7 Yaa rfl Xa (fun h=>absurd h Yao) ?_)
     ((apply Xt;refine Xj (k:=2) (l0:=[]) rfl rfl rfl ?_))
     refine X9 Yaa ?_
     exact Wo _ trivial (Xg (by repeat (first|exact Xr|refine Xl rfl ?_)) Yd1)
 refine X7 (Vu (k:=0) (sz:=5) (n:=1) (c:=1) rfl rfl rfl Yao Yao (Vi (j:=0) (k:=1) (i:=4) (E:=eEx k1) [x1] rfl rfl rfl rfl rfl rfl (hby:=by show 1 * 64≤_;decide))) ?_
 (repeat' (refine Xw ?_))
 exact ⟨.inr rfl,S8 rfl (.cella (k:=1) rfl rfl rfl rfl inferInstance rfl) (.cella (k:=0) rfl rfl rfl rfl inferInstance rfl) (List.nil_sublist _) ⟨⟨k1+1,_,_,hE,by rfl⟩,rfl⟩⟩
end Go.Proofs.YthdldeenpgeemaaGreatDoor
namespace Go.Proofs.YthdldeenpgeemaaGreatDoor
open Go Go.RowKit Go.Kx Go.Fr Go.Lx Go.Sx
theorem Xmb (d:Nat) (hd:d≤16) (hX:Xak 164 (ED (d+1)) (d+1)):Xqm d:=by
 intro l en p hl hv hp hc
 have e1:((d+1:Nat):Int)=(d:Int)+1:=by omega
 have hX2: ∀q,POk l q→d+1≤16∨q.bad=true→FnC Tryz.prog 164 [agg (Vr l en q),exI .i64 ((d:Int)+1)] [] (fun r loc=>(∃k x p',Step l en (ED (d+1)) q x p'∧r=tup [agg (exV k x),agg (Vr l en p')])∧loc=[]):=fun q a b=>by
   have:=hX l en q hl hv a b
   rwa [e1] at this
 have hP2: ∀kd q,POk l q→d+1≤16∨q.bad=true→FnC Tryz.prog 230 [agg (Vr l en q),exI .i64 kd,exI .i64 ((d:Int)+1)] [] (fun r loc=>(∃k x p',Step l en (Xa1 (ED (d+1)) kd) q x p'∧r=tup [agg (exV k x),agg (Vr l en p')])∧loc=[]):=fun kd q a b=>by
   have:=Xpj (en:=en) hl hv a kd (d+1) b hX
   rwa [e1] at this
 refine X3 Tryz.func214 rfl Tryz.ntmps214 rfl fun w0 F0 out=>?_
 (repeat' (first|(apply Wa 3;refine StopW.out ?_)|(apply Wa 5;refine StopW.out ?_)|(apply Wa 7;refine StopW.out ?_)|(apply Wa 10;refine StopW.out ?_)|(apply Wa 12;refine StopW.out ?_)|(apply Wa 14;refine StopW.out ?_)|(apply Wa 16;refine StopW.out ?_)|(apply Wa 22;refine StopW.out ?_)|(apply Wa 23;refine StopW.out ?_)|refine Xe ?_|refine Xb ?_|refine Xc ?_|(apply Xn;(first|exact Xf rfl|exact Xm rfl|exact Ybb|exact Ybk|exact Yaz);exact rfl)|refine Xs ?_|(apply Xh;exact rfl;first|(apply Xi;first|(refine Xq Tryz.func191 rfl (Xay hl Yaq) rfl ?_;rintro _ _ ⟨rfl,rfl⟩)|(refine Xq Tryz.func95 rfl (Vy hl hv Yaq _ Yao) rfl ?_;rintro _ _ ⟨rfl,rfl⟩)|(refine Xq Tryz.func163 rfl (Uk hl hv Yaq _ Yao) rfl ?_;rintro _ _ ⟨rfl,rfl⟩)|(refine Xq Tryz.func159 rfl (Xo0 hl Yaq) rfl ?_;rintro _ _ ⟨⟨x1,p1,hs,rfl⟩,rfl⟩;have hp1:=hs.ok)|(refine Xq Tryz.func93 rfl (Rb hl hv Yaq _ Yao) rfl ?_;rintro _ _ ⟨⟨x1,p1,hs,rfl⟩,rfl⟩;have hp1:=hs.ok))|(apply Vp;refine W4 rfl ?_;intro _)|(apply Wb;refine X8 ?_;intro _)|(apply Xt;refine Xj (k:=0) (l0:=[]) rfl rfl rfl ?_))|(refine Xp rfl (fun hb=>?_) (fun hb=>?_)<;>(repeat (first|replace hb:=W5 hb|replace hb:=W6 hb))<;>(try (exfalso;fail)))))
 · refine ⟨?_⟩
   (refine Wt 3 rfl ?_)
   all_goals ((apply Xd 0 rfl Yaa rfl Yab Xa;(exact Xf rfl);exact rfl))
   all_goals ((apply Xd 1 rfl Yaa rfl Yab Xa;(exact Yay);exact rfl))
   all_goals (refine Uw (H2:=Tp []) 2 3 Yaa rfl Xa (fun _ _ _=>trivial) rfl Xa (fun h=>absurd h Yao) ?_ ?_;(apply Tm (H:=fun _=>True);(exact Ybg);exact rfl);(apply Xu 3;exact Yaa;exact rfl;exact Xa;exact (fun h=>absurd h Yao);((apply Xt;refine Xj (k:=2) (l0:=[]) rfl rfl rfl ?_)));rotate_left;((apply Xt;refine Xj (k:=2) (l0:=[]) rfl rfl rfl ?_));(apply Xu 2;exact Yaa;exact rfl;exact Xa;exact (fun _ _ _=>trivial);(apply Tm (H:=fun _=>True);(exact Ybg);exact rfl)))
   all_goals ((apply Xu 4;exact Yaa;exact rfl;exact Xa;exact (fun h=>absurd h Yao);(apply Xt;refine Xj (k:=1) (l0:=[]) rfl rfl rfl ?_)))
   all_goals (refine X9 Yaa ?_)
   all_goals ((repeat' (refine Xw ?_)))
   all_goals (have hE:Step l en (Vc (decide (d<16)) (ED (d+1))) p (.mk 2 x1 0 0 []) p1:=Ycf;refine Tk (Vj (k:=2) rfl (Xbi 2 x1 0 0)) ?_;exact ⟨.inr rfl,S8 rfl (.cella (k:=2) rfl rfl rfl rfl inferInstance rfl) (.cella (k:=1) rfl rfl rfl rfl inferInstance rfl) (List.nil_sublist _) ⟨⟨1,_,_,hE,by rfl⟩,rfl⟩⟩)
 · refine ⟨?_⟩
   (repeat' (first|refine Xb ?_|refine Xc ?_|(apply Xn;(first|exact Ybk|exact Yay);exact rfl)|refine Xw ?_|(apply Xh;exact rfl;first|(apply Xi;(refine Xq Tryz.func101 rfl (U3 hl hv Yaq _ Yao) rfl ?_;rintro _ _ ⟨⟨p1,hs,rfl⟩,rfl⟩;have hp1:=hs.ok))|(apply Xt;first|refine Xj (k:=0) (l0:=[]) rfl rfl rfl ?_|refine Xj (k:=1) (l0:=[]) rfl rfl rfl ?_))))
   all_goals (have hE:Step l en (Vc (decide (d<16)) (ED (d+1))) p (.mk 3 [] 0 0 []) p1:=Ycf;refine Tk (Vj (k:=1) rfl (Xbi 3 [] 0 0)) ?_;exact ⟨.inr rfl,S8 rfl (.cella (k:=1) rfl rfl rfl rfl inferInstance rfl) (.cella (k:=0) rfl rfl rfl rfl inferInstance rfl) (List.nil_sublist _) ⟨⟨1,_,_,hE,by rfl⟩,rfl⟩⟩)
 · refine ⟨?_⟩
   (repeat' (first|refine Xb ?_|refine Xc ?_|(apply Xn;(first|exact Ybk|exact Yay);exact rfl)|refine Xw ?_|(apply Xh;exact rfl;first|(apply Xi;(refine Xq Tryz.func101 rfl (U3 hl hv Yaq _ Yao) rfl ?_;rintro _ _ ⟨⟨p1,hs,rfl⟩,rfl⟩;have hp1:=hs.ok))|(apply Xt;first|refine Xj (k:=0) (l0:=[]) rfl rfl rfl ?_|refine Xj (k:=1) (l0:=[]) rfl rfl rfl ?_))))
   all_goals (have hE:Step l en (Vc (decide (d<16)) (ED (d+1))) p (.mk 4 [] 0 0 []) p1:=Ycf;refine Tk (Vj (k:=1) rfl (Xbi 4 [] 0 0)) ?_;exact ⟨.inr rfl,S8 rfl (.cella (k:=1) rfl rfl rfl rfl inferInstance rfl) (.cella (k:=0) rfl rfl rfl rfl inferInstance rfl) (List.nil_sublist _) ⟨⟨1,_,_,hE,by rfl⟩,rfl⟩⟩)
 · refine ⟨?_⟩
   (refine Wt 3 rfl ?_)
   all_goals ((apply Xd 0 rfl Yaa rfl Yab Xa;(exact Xf rfl);exact rfl))
   all_goals ((apply Xd 1 rfl Yaa rfl Yab Xa;(exact Yay);exact rfl))
   all_goals (refine Uw (H2:=Tp []) 2 3 Yaa rfl Xa (fun _ _ _=>trivial) rfl Xa (fun h=>absurd h Yao) ?_ ?_;(apply Tm (H:=fun _=>True);(exact Ybg);exact rfl);(apply Xu 3;exact Yaa;exact rfl;exact Xa;exact (fun h=>absurd h Yao);((apply Xt;refine Xj (k:=2) (l0:=[]) rfl rfl rfl ?_)));rotate_left;((apply Xt;refine Xj (k:=2) (l0:=[]) rfl rfl rfl ?_));(apply Xu 2;exact Yaa;exact rfl;exact Xa;exact (fun _ _ _=>trivial);(apply Tm (H:=fun _=>True);(exact Ybg);exact rfl)))
   all_goals ((apply Xu 4;exact Yaa;exact rfl;exact Xa;exact (fun h=>absurd h Yao);(apply Xt;refine Xj (k:=1) (l0:=[]) rfl rfl rfl ?_)))
   all_goals (refine X9 Yaa ?_)
   all_goals ((repeat' (refine Xw ?_)))
   all_goals (have hE:Step l en (Vc (decide (d<16)) (ED (d+1))) p (.mk 5 x1 0 0 []) p1:=Ycf;refine Tk (Vj (k:=2) rfl (Xbi 5 x1 0 0)) ?_;exact ⟨.inr rfl,S8 rfl (.cella (k:=2) rfl rfl rfl rfl inferInstance rfl) (.cella (k:=1) rfl rfl rfl rfl inferInstance rfl) (List.nil_sublist _) ⟨⟨1,_,_,hE,by rfl⟩,rfl⟩⟩)
 · refine ⟨?_⟩
   (repeat' (first|refine Xb ?_|refine Xc ?_|(apply Xn;exact Ydg;exact rfl)|refine Xw ?_|(apply Xh;exact rfl;first|(apply Xi;first|(refine Xq Tryz.func216 rfl (Qs hl Yaq d Yan) rfl ?_;rintro _ _ ⟨⟨p1,hd1,hd2,rfl⟩,rfl⟩;have hs:=Qt Yaq hd1 hd2;have hp1:=hs.ok;have hc1:=Qu hd2)|(refine Xq Tryz.func101 rfl (U3 hl hv Yaq _ Yao) rfl ?_;rintro _ _ ⟨⟨p1,hs,rfl⟩,rfl⟩;have hp1:=hs.ok;have hc1:=Step.keep (d:=d+1) hs Yaq)|(refine Xq Tryz.func230 rfl (hP2 _ _ Yaq Yaq) rfl ?_;rintro _ _ ⟨⟨k1,x1,p1,hs,rfl⟩,rfl⟩;have hp1:=hs.ok))|(apply Xt;first|refine Xj (k:=0) (l0:=[]) rfl rfl rfl ?_|refine Xj (k:=1) (l0:=[]) rfl rfl rfl ?_))))
   all_goals (have hE:Step l en (Vc (decide (d<16)) (ED (d+1))) p x1 p1:=Ybp;exact ⟨.inr rfl,S8 rfl (.cella (k:=1) rfl rfl rfl rfl inferInstance rfl) (.cella (k:=0) rfl rfl rfl rfl inferInstance rfl) (List.nil_sublist _) ⟨⟨_,_,_,hE,by rfl⟩,rfl⟩⟩)
 · refine ⟨?_⟩
   (repeat' (first|refine Xb ?_|refine Xc ?_|(apply Xn;exact Ydg;exact rfl)|refine Xw ?_|(apply Xh;exact rfl;first|(apply Xi;first|(refine Xq Tryz.func216 rfl (Qs hl Yaq d Yan) rfl ?_;rintro _ _ ⟨⟨p1,hd1,hd2,rfl⟩,rfl⟩;have hs:=Qt Yaq hd1 hd2;have hp1:=hs.ok;have hc1:=Qu hd2)|(refine Xq Tryz.func101 rfl (U3 hl hv Yaq _ Yao) rfl ?_;rintro _ _ ⟨⟨p1,hs,rfl⟩,rfl⟩;have hp1:=hs.ok;have hc1:=Step.keep (d:=d+1) hs Yaq)|(refine Xq Tryz.func230 rfl (hP2 _ _ Yaq Yaq) rfl ?_;rintro _ _ ⟨⟨k1,x1,p1,hs,rfl⟩,rfl⟩;have hp1:=hs.ok))|(apply Xt;first|refine Xj (k:=0) (l0:=[]) rfl rfl rfl ?_|refine Xj (k:=1) (l0:=[]) rfl rfl rfl ?_))))
   all_goals (have hE:Step l en (Vc (decide (d<16)) (ED (d+1))) p x1 p1:=Ybp;exact ⟨.inr rfl,S8 rfl (.cella (k:=1) rfl rfl rfl rfl inferInstance rfl) (.cella (k:=0) rfl rfl rfl rfl inferInstance rfl) (List.nil_sublist _) ⟨⟨_,_,_,hE,by rfl⟩,rfl⟩⟩)
 · refine ⟨?_⟩
   (repeat' (first|(apply Wa 17;refine StopW.out ?_)|refine Xe ?_|refine Xb ?_|refine Xc ?_|(apply Xn;exact Ydg;exact rfl)|(apply Xh;exact rfl;first|(apply Xi;first|(refine Xq Tryz.func216 rfl (Qs hl Yaq d Yan) rfl ?_;rintro _ _ ⟨⟨p1,hd1,hd2,rfl⟩,rfl⟩;have hs:=Qt Yaq hd1 hd2;have hp1:=hs.ok;have hc1:=Qu hd2)|(refine Xq Tryz.func101 rfl (U3 hl hv Yaq _ Yao) rfl ?_;rintro _ _ ⟨⟨p1,hs,rfl⟩,rfl⟩;have hp1:=hs.ok;have hc1:=Step.keep (d:=d+1) hs Yaq)|(refine Xq Tryz.func164 rfl (hX2 _ Yaq Yaq) rfl ?_;rintro _ _ ⟨⟨k1,x1,p1,hs,rfl⟩,rfl⟩;have hp1:=hs.ok;have hc1:=Step.keep (d:=d+1) hs Yaq))|(apply Wb;refine X8 ?_;intro _)|(apply Xt;first|refine Xj (k:=0) (l0:=[]) rfl rfl rfl ?_|refine Xj (k:=1) (l0:=[]) rfl rfl rfl ?_))))
   refine ⟨?_⟩
   rename_i b2 b4 b5 n1 n2 n3 n4 n5 n6 s2 t2 g2 c2 s3 t3 g3 c3 b10 b11
   revert k1 x1 p1
   intro ka xa qa ta ga ca
   refine X7 (env':=[(1,exI .i64 (d:Int)),(4,ex (.pointer (some ⟨b4,0,none⟩))),(5,ex (.pointer (some ⟨b5,0,none⟩))),(10,ex (.pointer (some ⟨b10,0,none⟩))),(11,ex (.pointer (some ⟨b11,0,none⟩)))]) (loc':=[row b11 65 5 (Vr l en qa),row b10 52 5 (exV ka xa),row b5 65 5 [ex (.slice none 0 0),exI .i64 0,exI .i64 0,exB false,exI .i64 0],row b4 52 5 [exI .i64 0,exT [],exI .i64 0,exI .i64 0,ex (.slice none 0 0)]]) (Xg (by repeat (first|exact Xr|refine Xl rfl ?_)) (by exact .cons_cons _ (.cons_cons _ (.cons_cons _ (.cons_cons _ (List.nil_sublist _)))))) ?_
   (repeat' (first|(apply Wa 18;refine StopW.out ?_)|refine Xe ?_|refine Xb ?_|refine Xc ?_|(apply Xn;(first|exact Xf rfl|exact Ybb|exact Ybg|exact Ya7);exact rfl)|(apply Xh;exact rfl;first|(apply Xi;first|(refine Xq Tryz.func101 rfl (U3 hl hv Yaq _ Yao) rfl ?_;rintro _ _ ⟨⟨p1,hs,rfl⟩,rfl⟩;have hp1:=hs.ok;have hc1:=Step.keep (d:=d+1) hs Yaq)|(refine Xq Tryz.func164 rfl (hX2 _ Yaq Yaq) rfl ?_;rintro _ _ ⟨⟨k1,x1,p1,hs,rfl⟩,rfl⟩;have hp1:=hs.ok;have hc1:=Step.keep (d:=d+1) hs Yaq))|(apply Wb;refine X8 ?_;intro _)|(apply Xt;first|refine Xj (k:=0) (l0:=[]) rfl rfl rfl ?_|refine Xj (k:=1) (l0:=[]) rfl rfl rfl ?_))))
   refine ⟨?_⟩
   rename_i s4 t4 g4 c4 b12
   revert k1 x1 p1
   intro kb xb qb tb gb cb
   refine X7 (env':=[(1,exI .i64 (d:Int)),(4,ex (.pointer (some ⟨b4,0,none⟩))),(5,ex (.pointer (some ⟨b5,0,none⟩))),(10,ex (.pointer (some ⟨b10,0,none⟩))),(11,ex (.pointer (some ⟨b11,0,none⟩))),(12,ex (.pointer (some ⟨b12,0,none⟩)))]) (loc':=[row b12 52 5 (exV kb xb),row b11 65 5 (Vr l en qb),row b10 52 5 (exV ka xa),row b5 65 5 [ex (.slice none 0 0),exI .i64 0,exI .i64 0,exB false,exI .i64 0],row b4 52 5 [exI .i64 0,exT [],exI .i64 0,exI .i64 0,ex (.slice none 0 0)]]) (Xg (by repeat (first|exact Xr|refine Xl rfl ?_)) (List.Sublist.refl _)) ?_
   (repeat' (first|(apply Wa 19;refine StopW.out ?_)|refine Xe ?_|refine Xb ?_|refine Xc ?_|(apply Xn;(first|exact Xf rfl|exact Ybb|exact Ya1|exact Ya7);exact rfl)|(apply Xh;exact rfl;first|(apply Xi;first|(refine Xq Tryz.func101 rfl (U3 hl hv Yaq _ Yao) rfl ?_;rintro _ _ ⟨⟨p1,hs,rfl⟩,rfl⟩;have hp1:=hs.ok;have hc1:=Step.keep (d:=d+1) hs Yaq)|(refine Xq Tryz.func164 rfl (hX2 _ Yaq Yaq) rfl ?_;rintro _ _ ⟨⟨k1,x1,p1,hs,rfl⟩,rfl⟩;have hp1:=hs.ok;have hc1:=Step.keep (d:=d+1) hs Yaq))|(apply Wb;refine X8 ?_;intro _)|(apply Xt;first|refine Xj (k:=0) (l0:=[]) rfl rfl rfl ?_|refine Xj (k:=2) (l0:=[]) rfl rfl rfl ?_))))
   refine ⟨?_⟩
   rename_i s5 t5 g5 c5 b13
   revert k1 x1 p1
   intro kc xc qc tc gc cc
   refine X7 (env':=[(1,exI .i64 (d:Int)),(4,ex (.pointer (some ⟨b4,0,none⟩))),(5,ex (.pointer (some ⟨b5,0,none⟩))),(10,ex (.pointer (some ⟨b10,0,none⟩))),(11,ex (.pointer (some ⟨b11,0,none⟩))),(12,ex (.pointer (some ⟨b12,0,none⟩))),(13,ex (.pointer (some ⟨b13,0,none⟩)))]) (loc':=[row b13 52 5 (exV kc xc),row b12 52 5 (exV kb xb),row b11 65 5 (Vr l en qc),row b10 52 5 (exV ka xa),row b5 65 5 [ex (.slice none 0 0),exI .i64 0,exI .i64 0,exB false,exI .i64 0],row b4 52 5 [exI .i64 0,exT [],exI .i64 0,exI .i64 0,ex (.slice none 0 0)]]) (Xg (by repeat (first|exact Xr|refine Xl rfl ?_)) (List.Sublist.refl _)) ?_
   (repeat' (first|(apply W2 20;refine StopW.out ?_)|refine Xb ?_|refine Xc ?_|(apply Xn;exact Ydg;exact rfl)|(apply Xh;exact rfl;first|(apply Xi;first|(refine Xq Tryz.func101 rfl (U3 hl hv Yaq _ Yao) rfl ?_;rintro _ _ ⟨⟨p1,hs,rfl⟩,rfl⟩;have hp1:=hs.ok;have hc1:=Step.keep (d:=d+1) hs Yaq)|(refine Xq Tryz.func164 rfl (hX2 _ Yaq Yaq) rfl ?_;rintro _ _ ⟨⟨k1,x1,p1,hs,rfl⟩,rfl⟩;have hp1:=hs.ok;have hc1:=Step.keep (d:=d+1) hs Yaq))|(apply Wb;refine X8 ?_;intro _)|(apply Xt;first|refine Xj (k:=0) (l0:=[]) rfl rfl rfl ?_|refine Xj (k:=3) (l0:=[]) rfl rfl rfl ?_))))
   refine ⟨?_⟩
   rename_i s6 t6 g6 c6 b14
   revert k1 x1 p1
   intro kd xd qd td gd cd
   refine X7 (env':=[(1,exI .i64 (d:Int)),(4,ex (.pointer (some ⟨b4,0,none⟩))),(5,ex (.pointer (some ⟨b5,0,none⟩))),(10,ex (.pointer (some ⟨b10,0,none⟩))),(11,ex (.pointer (some ⟨b11,0,none⟩))),(12,ex (.pointer (some ⟨b12,0,none⟩))),(13,ex (.pointer (some ⟨b13,0,none⟩))),(14,ex (.pointer (some ⟨b14,0,none⟩)))]) (loc':=[row b14 52 5 (exV kd xd),row b13 52 5 (exV kc xc),row b12 52 5 (exV kb xb),row b11 65 5 (Vr l en qd),row b10 52 5 (exV ka xa),row b5 65 5 [ex (.slice none 0 0),exI .i64 0,exI .i64 0,exB false,exI .i64 0],row b4 52 5 [exI .i64 0,exT [],exI .i64 0,exI .i64 0,ex (.slice none 0 0)]]) (Xg (by repeat (first|exact Xr|refine Xl rfl ?_)) (List.Sublist.refl _)) ?_
   refine Xaq 20 (fun z:Nat×Pst=>([(4,ex (.pointer (some ⟨b4,0,none⟩))),(5,ex (.pointer (some ⟨b5,0,none⟩)))],[row z.1 52 20 (exV ka xa++(exV kb xb++(exV kc xc++exV kd xd))),row b5 65 5 (Vr l en z.2),row b4 52 5 [exI .i64 11,exT [],exI .i64 0,exI .i64 0,ex (.slice (some ⟨z.1,0,none⟩) 4 4)]])) (fun z=>Step l en (want wEnd) qd () z.2) ?_ fun z hz=>?_
   · skip
     (refine Wt 8 rfl ?_)
     (apply Xv 0 rfl Yaa rfl Yaa Yab Xa;(exact Ybz);exact rfl)
     (apply Xv 1 rfl Yaa rfl Yaa Yab Xa;(exact Ybk);exact rfl)
     (apply Xv 2 rfl Yaa rfl Yaa Yab Xa;(exact Ya1);exact rfl)
     (apply Xv 3 rfl Yaa rfl Yaa Yab Xa;(exact Ybg);exact rfl)
     (refine Uw (H2:=fun _=>True) 4 6 Yaa rfl Xa (fun _ _ h=>h) rfl Xa (fun _ _ _=>trivial) ?_ ?_)
     ·
       ((apply X5;(first|refine X6 rfl rfl ?_|refine Wi rfl Yac ?_|refine Ub rfl ?_);intro _))
       (apply Xd 5 rfl Yaa rfl Yab Xa;(exact Yay);exact rfl)
       (refine Xu (H':=fun _=>True) 6 Yaa rfl Xa (fun _ _ _=>trivial) ?_)
       ((apply Tm (H:=fun _=>True);(exact Ybz);exact rfl))
       (refine Xu 7 Yaa rfl Xa (fun _ _ h=>h) ?_)
       ((apply Xi;(refine Xq Tryz.func101 rfl (U3 hl hv Yaq _ Yao) rfl ?_;rintro _ _ ⟨⟨p1,hs,rfl⟩,rfl⟩;have hp1:=hs.ok)))
       (refine Xu (H':=Tp []) 8 Yaa rfl Xa (fun h=>absurd h Yao) ?_)
       ((apply Xt;refine Xj (k:=7) (l0:=[]) rfl rfl rfl ?_))
       (refine Xu (H':=Tp []) 9 Yaa rfl Xa (fun h=>absurd h Yao) ?_)
       ((apply Xt;refine Xj (k:=6) (l0:=[]) rfl rfl rfl ?_))
       refine X9 Yaa ?_
       exact Wo (_,_) Yaq (Xg (by repeat (first|exact Xr|refine Xl rfl ?_)) Yc4)
     ·
       ((apply Tm (H:=fun _=>True);(exact Ya2);exact rfl))
       (refine Uw 4 7 Yaa rfl Xa (fun _ _ h=>h) rfl Xa (fun _ _ h=>h) ?_ ?_)
       ·
         ((apply X5;(first|refine X6 rfl rfl ?_|refine Wi rfl Yac ?_|refine Ub rfl ?_);intro _))
         (apply Xd 5 rfl Yaa rfl Yab Xa;(exact Yay);exact rfl)
         (refine Xu 7 Yaa rfl Xa (fun _ _ h=>h) ?_)
         ((apply Xi;(refine Xq Tryz.func101 rfl (U3 hl hv Yaq _ Yao) rfl ?_;rintro _ _ ⟨⟨p1,hs,rfl⟩,rfl⟩;have hp1:=hs.ok)))
         (refine Xu (H':=Tp []) 8 Yaa rfl Xa (fun h=>absurd h Yao) ?_)
         ((apply Xt;refine Xj (k:=7) (l0:=[]) rfl rfl rfl ?_))
         (refine Xu (H':=Tp []) 9 Yaa rfl Xa (fun h=>absurd h Yao) ?_)
         ((apply Xt;refine Xj (k:=6) (l0:=[]) rfl rfl rfl ?_))
         refine X9 Yaa ?_
         exact Wo (_,_) Yaq (Xg (by repeat (first|exact Xr|refine Xl rfl ?_)) Yc4)
       ·
         ((apply Xi;(refine Xq Tryz.func101 rfl (U3 hl hv Yaq _ Yao) rfl ?_;rintro _ _ ⟨⟨p1,hs,rfl⟩,rfl⟩;have hp1:=hs.ok)))
         (refine Xu 4 Yaa rfl Xa (fun _ _ h=>h) ?_)
         ((apply X5;(first|refine X6 rfl rfl ?_|refine Wi rfl Yac ?_|refine Ub rfl ?_);intro _))
         (apply Xd 5 rfl Yaa rfl Yab Xa;(exact Yay);exact rfl)
         (refine Xu (H':=Tp []) 8 Yaa rfl Xa (fun h=>absurd h Yao) ?_)
         ((apply Xt;refine Xj (k:=7) (l0:=[]) rfl rfl rfl ?_))
         (refine Xu (H':=Tp []) 9 Yaa rfl Xa (fun h=>absurd h Yao) ?_)
         ((apply Xt;refine Xj (k:=6) (l0:=[]) rfl rfl rfl ?_))
         refine X9 Yaa ?_
         exact Wo (_,_) Yaq (Xg (by repeat (first|exact Xr|refine Xl rfl ?_)) Yc4)
   obtain ⟨bs,qe⟩:=z
   have ge:=hz.ok
   simp only at hz ge ⊢
   have hE:Step l en (Vc (decide (d<16)) (ED (d+1))) p (.mk 11 [] 0 0 [xa,xb,xc,xd]) qe:=Ybp
   have l1:ka≤max (max ka kb) (max kc kd):=by omega
   have l2:kb≤max (max ka kb) (max kc kd):=by omega
   have l3:kc≤max (max ka kb) (max kc kd):=by omega
   have l4:kd≤max (max ka kb) (max kc kd):=by omega
   generalize max (max ka kb) (max kc kd)=km at l1 l2 l3 l4
   refine X7 (Leads.trans (Vj (k:=0) (ps:=exV ka xa++(exV kb xb++(exV kc xc++exV kd xd))) rfl (Tr (Tx l1 xa) (Tr (Tx l2 xb) (Tr (Tx l3 xc) (Tx l4 xd))))) (Vu (k:=0) (sz:=5) (n:=4) (c:=4) rfl rfl rfl Yao Yao (Vi (j:=0) (k:=1) (i:=4) (E:=eEx km) [xa,xb,xc,xd] rfl rfl rfl rfl rfl rfl (hby:=by show 4 * 64≤_;decide)))) ?_
   (repeat' (refine Xw ?_))
   exact ⟨.inr rfl,S8 rfl (.cella (k:=1) rfl rfl rfl rfl inferInstance rfl) (.cella (k:=0) rfl rfl rfl rfl inferInstance rfl) (List.nil_sublist _) ⟨⟨km+1,_,_,hE,by rfl⟩,rfl⟩⟩
 · refine ⟨?_⟩
   have hE:Step l en (Vc (decide (d<16)) (ED (d+1))) p (.mk 0 [] 0 0 []) (p.fail l en):=Ybp
   (repeat' (first|refine Xb ?_|refine Xc ?_|(apply Xn;(first|exact Ybk|exact Ybq);exact rfl)|refine Xw ?_|(apply Xh;exact rfl;first|(apply Xi;(refine Xq Tryz.func103 rfl (Uj hl Yaq) rfl ?_;rintro _ _ ⟨rfl,rfl⟩))|(apply Xt;first|refine Xj (k:=0) (l0:=[]) rfl rfl rfl ?_|refine Xj (k:=1) (l0:=[]) rfl rfl rfl ?_))))
   all_goals (refine Tk (Vj (k:=1) rfl (Xbi 0 [] 0 0)) ?_;exact ⟨.inr rfl,S8 rfl (.cella (k:=1) rfl rfl rfl rfl inferInstance rfl) (.cella (k:=0) rfl rfl rfl rfl inferInstance rfl) (List.nil_sublist _) ⟨⟨1,_,_,hE,by rfl⟩,rfl⟩⟩)
 · refine ⟨?_⟩
   (repeat' (first|(apply Wa 24;refine StopW.out ?_)|refine Xe ?_|refine Xb ?_|refine Xc ?_|(apply Xn;exact Ydg;exact rfl)|(apply Xh;exact rfl;first|(apply Xi;first|(refine Xq Tryz.func216 rfl (Qs hl Yaq d Yan) rfl ?_;rintro _ _ ⟨⟨p1,hd1,hd2,rfl⟩,rfl⟩;have hs:=Qt Yaq hd1 hd2;have hp1:=hs.ok;have hc1:=Qu hd2)|(refine Xq Tryz.func94 rfl (Ux hl hv Yaq _ Yao) rfl ?_;rintro _ _ ⟨⟨p1,hs,rfl⟩,rfl⟩;have hp1:=hs.ok;have hc1:=Step.keep (d:=d+1) hs Yaq)|(refine Xq Tryz.func164 rfl (hX2 _ Yaq Yaq) rfl ?_;rintro _ _ ⟨⟨k1,x1,p1,hs,rfl⟩,rfl⟩;have hp1:=hs.ok;have hc1:=Step.keep (d:=d+1) hs Yaq))|(apply Wb;refine X8 ?_;intro _)|(apply Xt;first|refine Xj (k:=0) (l0:=[]) rfl rfl rfl ?_|refine Xj (k:=3) (l0:=[]) rfl rfl rfl ?_))))
   refine ⟨?_⟩
   rename_i b2 b4 b5 n1 n2 n3 n4 n5 n6 n7 s2 t2 g2 c2 s3 t3 g3 c3 b15
   revert k1 x1 p1
   intro kx x qx tx gx cx
   refine X7 (env':=[(2,ex (.pointer (some ⟨b2,0,none⟩))),(4,ex (.pointer (some ⟨b4,0,none⟩))),(5,ex (.pointer (some ⟨b5,0,none⟩))),(15,ex (.pointer (some ⟨b15,0,none⟩)))]) (loc':=[row b15 52 5 (exV kx x),row b5 65 5 [ex (.slice none 0 0),exI .i64 0,exI .i64 0,exB false,exI .i64 0],row b4 52 5 [exI .i64 0,exT [],exI .i64 0,exI .i64 0,ex (.slice none 0 0)],row b2 65 5 (Vr l en qx)]) (Xg (by repeat (first|exact Xr|refine Xl rfl ?_)) (List.Sublist.refl _)) ?_
   (refine Wt 3 rfl ?_)
   all_goals ((apply Xv 0 rfl Yaa rfl Yaa Yab Xa;(exact Ybg);exact rfl))
   all_goals ((apply Xu 1 Yaa rfl Xa (fun _ _ _=>trivial);apply Tm (H:=fun _=>True);(exact Ya2);exact rfl))
   all_goals ((apply Xu 2;exact Yaa;exact rfl;exact Xa;exact (fun _ _ h=>h);(apply Xi;(refine Xq Tryz.func94 rfl (Ux hl hv Yaq _ Yao) rfl ?_;rintro _ _ ⟨⟨p1,hs,rfl⟩,rfl⟩;have hp1:=hs.ok))))
   all_goals ((apply Xu 3;exact Yaa;exact rfl;exact Xa;exact (fun h=>absurd h Yao);(apply Xt;refine Xj (k:=2) (l0:=[]) rfl rfl rfl ?_)))
   all_goals ((apply Xu 4;exact Yaa;exact rfl;exact Xa;exact (fun h=>absurd h Yao);(apply Xt;refine Xj (k:=1) (l0:=[]) rfl rfl rfl ?_)))
   all_goals (refine X9 Yaa ?_)
   all_goals ((repeat' (refine Xw ?_)))
   all_goals (have hE:Step l en (Vc (decide (d<16)) (ED (d+1))) p x p1:=Ybp;exact ⟨.inr rfl,S8 rfl (.cella (k:=2) rfl rfl rfl rfl inferInstance rfl) (.cella (k:=1) rfl rfl rfl rfl inferInstance rfl) (List.nil_sublist _) ⟨⟨_,_,_,hE,by rfl⟩,rfl⟩⟩)
end Go.Proofs.YthdldeenpgeemaaGreatDoor
namespace Go.Proofs.YthdldeenpgeemaaGreatDoor
open Go Go.RowKit Go.Kx Go.Fr Go.Lx Go.Sx
variable {l:List TokD} {en:Nat} {p:Pst}
theorem Xe2 {l:List TokD} {p:Pst} {t:List TokD→Bool} (h:p.bad=true):tst l t p=false:=by unfold tst;rw [h];rfl
theorem factor13z:Xak 214 (fun ts=> .error ts) 17:=by
 intro l en p hl hv hp hc
 have hb:p.bad=true:=hc.resolve_left Yao
 have hN:FnC Tryz.prog 191 [agg (Vr l en p)] [] (fun q loc=>q=exB false∧loc=[]):=by rw [←Xe2 (l:=l) (t:=Sx.isName) hb];exact Xay hl hp
 have hW: ∀w,1<w.length→FnC Tryz.prog 95 [agg (Vr l en p),exT w] [] (fun q loc=>q=exB false∧loc=[]):=fun w hw=>by rw [←Xe2 (l:=l) (t:=isT w) hb];exact Vy hl hv hp w hw
 have hS: ∀w,Ru w=false→FnC Tryz.prog 163 [agg (Vr l en p),exT w] [] (fun q loc=>q=exB false∧loc=[]):=fun w hw=>by rw [←Xe2 (l:=l) (t:=isT w) hb];exact Uk hl hv hp w hw
 have hE:Step l en (fun ts=> .error ts) p (.mk 0 [] 0 0 []:Ex) (p.fail l en):=Step.fail hp
 refine X3 Tryz.func214 rfl Tryz.ntmps214 rfl fun w0 F0 out=>?_
 (repeat' (first|refine Xe ?_|refine Xb ?_|refine Xc ?_|(apply Xn;(first|exact Ybk|exact Yaz|exact Ybq);exact rfl)|refine Xs ?_|refine Xw ?_|refine Xx rfl ?_|refine Xy rfl ?_|(apply Xh;exact rfl;first|(apply Xi;first|(refine Xq Tryz.func191 rfl hN rfl ?_;rintro _ _ ⟨rfl,rfl⟩)|(refine Xq Tryz.func95 rfl (hW _ Yao) rfl ?_;rintro _ _ ⟨rfl,rfl⟩)|(refine Xq Tryz.func163 rfl (hS _ Yao) rfl ?_;rintro _ _ ⟨rfl,rfl⟩)|(refine Xq Tryz.func103 rfl (Uj hl Yaq) rfl ?_;rintro _ _ ⟨rfl,rfl⟩))|(apply Vp;refine W4 rfl ?_;intro _)|(apply Wb;refine X8 ?_;intro _)|(apply Xt;first|refine Xj (k:=0) (l0:=[]) rfl rfl rfl ?_|refine Xj (k:=1) (l0:=[]) rfl rfl rfl ?_))))
 all_goals (try (exfalso;first|contradiction|(simp_all;done)))
 all_goals (refine Tk (Vj (k:=1) rfl (Xbi 0 [] 0 0)) ?_;exact ⟨.inr rfl,S8 rfl (.cella (k:=1) rfl rfl rfl rfl inferInstance rfl) (.cella (k:=0) rfl rfl rfl rfl inferInstance rfl) (List.nil_sublist _) ⟨⟨1,_,_,hE,by rfl⟩,rfl⟩⟩)
theorem term13z:Xak 192 (TD 17) 17:=by
 intro l en p hl hv hp hc
 have hb:p.bad=true:=hc.resolve_left Yao
 have hI:FnC Tryz.prog 193 [agg (Vr l en p)] [] (fun q loc=>q=exB false∧loc=[]):=by rw [←Xe2 (l:=l) (t:=isNum) hb];exact Tt hl hp
 have hF:=factor13z l en p hl hv hp hc
 refine X3 Tryz.func192 rfl Tryz.ntmps192 rfl fun w0 F0 out=>?_
 (repeat' (first|refine Xe ?_|refine Xb ?_|refine Xc ?_|(apply Xn;(first|exact Xf rfl|exact Ybb|exact Ybk|exact Yaz);exact rfl)|refine Xw ?_|refine Xx rfl ?_|(apply Xh;exact rfl;first|(apply Xi;first|(refine Xq Tryz.func193 rfl hI rfl ?_;rintro _ _ ⟨rfl,rfl⟩)|(refine Xq Tryz.func214 rfl hF rfl ?_;rintro _ _ ⟨⟨k1,x1,p1,hs,rfl⟩,rfl⟩;have hp1:=hs.ok))|(apply Vp;refine W4 rfl ?_;intro _)|(apply Wb;refine X8 ?_;intro _)|(apply Xt;first|refine Xj (k:=0) (l0:=[]) rfl rfl rfl ?_|refine Xj (k:=1) (l0:=[]) rfl rfl rfl ?_))))
 all_goals (try (exfalso;first|contradiction|(simp_all;done)))
 have hE:Step l en (TD 17) p x1 p1:=by unfold TD;rw [if_neg Yao];exact hs
 exact ⟨.inr rfl,S8 rfl (.cella (k:=1) rfl rfl rfl rfl inferInstance rfl) (.cella (k:=0) rfl rfl rfl rfl inferInstance rfl) (List.nil_sublist _) ⟨⟨_,_,_,hE,by rfl⟩,rfl⟩⟩
theorem terms13r: ∀n d,n+d=17→Xak 192 (TD d) d
 | 0,d,h=>by
   have:d=17:=by omega
   subst this;exact term13z
 | n+1,d,h=>by
   have hT:=terms13r n (d+1) Yan
   exact Xpl d Yan (Xmb d Yan (Xma (d+1) hT)) hT
theorem Xnx (hl:l.length≤70000) (hv:Va l) (hp:POk l p):FnC Tryz.prog 164 [agg (Vr l en p),exI .i64 0] [] (fun q loc=>(∃k x p',Step l en (Ty 16) p x p'∧q=tup [agg (exV k x),agg (Vr l en p')])∧loc=[]):=
 Xma 0 (terms13r 17 0 rfl) l en p hl hv hp (.inl Yao)
end Go.Proofs.YthdldeenpgeemaaGreatDoor
