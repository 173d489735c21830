/- Chapter 13, the specification's parser: rounds. -/
import Derived.Test.YthdldeenpgeemaaGreatDoorPartH
import Derived.Test.YthdldeenpgeemaaGreatDoorPartG
import Derived.Test.YthdldeenpgeemaaGreatDoorPart8
import Derived.Test.YthdldeenpgeemaaGreatDoorPart6
import Derived.Test.YthdldeenpgeemaaGreatDoorPartA
set_option maxHeartbeats 8000000
set_option maxRecDepth 100000
namespace Go.Proofs.YthdldeenpgeemaaGreatDoor
open Go Go.RowKit Go.Kx Go.Fr Go.Lx Go.Sx
variable {l:List TokD} {en:Nat} {p:Pst}
theorem Xny (hl:l.length≤70000) (hv:Va l) (hp:POk l p):FnC Tryz.prog 99 [agg (Vr l en p)] [] (fun q loc=>(∃k x p',Step l en (Xb2 roundB) p x p'∧q=tup [agg (V9 k x),agg (Vr l en p')])∧loc=[]):=by
 refine X3 Tryz.func99 rfl Tryz.ntmps99 rfl fun w0 F0 out=>?_
 (repeat' (first|(apply W2 5;refine StopW.out ?_)|refine Xe ?_|refine Xb ?_|refine Xc ?_|(apply Xn;(first|exact Xf rfl|exact Ybb|exact Ya2|exact Yad|exact Yay);exact rfl)|(apply Xh;exact rfl;first|(apply Xi;first|(refine Xq Tryz.func93 rfl (Rb hl hv Yaq _ Yao) rfl ?_;rintro _ _ ⟨⟨x1,p1,hs,rfl⟩,rfl⟩;have hp1:=hs.ok)|(refine Xq Tryz.func102 rfl (Qj hl hv Yaq _ Yao) rfl ?_;rintro _ _ ⟨⟨x1,p1,hs,rfl⟩,rfl⟩;have hp1:=hs.ok))|(apply Vp;refine W4 rfl ?_;intro _)|(apply Wb;refine X8 ?_;intro _)|(apply Xt;first|refine Xj (k:=0) (l0:=[]) rfl rfl rfl ?_|refine Xj (k:=3) (l0:=[]) rfl rfl rfl ?_))))
 refine ⟨?_⟩
 rename_i b1 b2 b3 b4 nm q1 h1 k1 pn q2 h2 k2
 revert x1 p1
 intro qt q3 h3 k3
 refine V1 (fun z:Int×Pst=>([(1,ex (.pointer (some ⟨b1,0,none⟩))),(2,ex (.pointer (some ⟨b2,0,none⟩))),(3,ex (.pointer (some ⟨b3,0,none⟩))),(4,ex (.pointer (some ⟨b4,0,none⟩)))],[row b4 54 13 [exT nm,exI .i64 pn,exI .i64 qt,exI .i64 z.1,exB false,exB false,exI .i64 0,exT [],exI .i64 0,exI .i64 0,ex (.slice none 0 0),exT [],exI .i64 (-1)],row b3 65 5 [ex (.slice none 0 0),exI .i64 0,exI .i64 0,exB false,exI .i64 0],row b2 54 13 [exT [],exI .i64 0,exI .i64 0,exI .i64 0,exB false,exB false,exI .i64 0,exT [],exI .i64 0,exI .i64 0,ex (.slice none 0 0),exT [],exI .i64 0],row b1 65 5 (Vr l en z.2)])) (fun z=>Step l en cutP q3 z.1 z.2) ?_ fun z hz=>?_
 · refine X7 (env':=[(1,ex (.pointer (some ⟨b1,0,none⟩))),(2,ex (.pointer (some ⟨b2,0,none⟩))),(3,ex (.pointer (some ⟨b3,0,none⟩))),(4,ex (.pointer (some ⟨b4,0,none⟩)))]) (loc':=[row b4 54 13 [exT nm,exI .i64 pn,exI .i64 qt,exI .i64 0,exB false,exB false,exI .i64 0,exT [],exI .i64 0,exI .i64 0,ex (.slice none 0 0),exT [],exI .i64 (-1)],row b3 65 5 [ex (.slice none 0 0),exI .i64 0,exI .i64 0,exB false,exI .i64 0],row b2 54 13 [exT [],exI .i64 0,exI .i64 0,exI .i64 0,exB false,exB false,exI .i64 0,exT [],exI .i64 0,exI .i64 0,ex (.slice none 0 0),exT [],exI .i64 0],row b1 65 5 (Vr l en q3)]) (Xg (by repeat (first|exact Xr|refine Xl rfl ?_)) (List.Sublist.refl _)) ?_
   (repeat' (first|refine Xe ?_|refine Xb ?_|refine Xc ?_|(apply Xn;(first|exact Ya2|exact Yad);exact rfl)|(apply Xh;exact rfl;first|(apply Xi;first|(refine Xq Tryz.func95 rfl (Vy hl hv Yaq _ Yao) rfl ?_;rintro _ _ ⟨rfl,rfl⟩)|(refine Xq Tryz.func101 rfl (U3 hl hv Yaq _ Yao) rfl ?_;rintro _ _ ⟨⟨p1,hs,rfl⟩,rfl⟩;have hp1:=hs.ok))|(apply Xt;first|refine Xj (k:=0) (l0:=[]) rfl rfl rfl ?_|refine Xj (k:=3) (l0:=[]) rfl rfl rfl ?_))|(refine Xp rfl (fun hb=>?_) (fun hb=>?_)<;>(repeat (fail))<;>(try (exfalso;fail)))))
   all_goals (refine Wo (Q:=fun _ _ _=>True) (_,_) (by unfold Sx.cutP;repeat' (first|assumption|exact Step.ret Yaq|(apply Step.ifT;assumption)|(apply Step.ifF;assumption)|apply Step.bnd)) (Xg (by repeat (first|exact Xr|refine Xl rfl ?_)) (List.Sublist.refl _)))
 obtain ⟨ct,q4⟩:=z
 have k4:=hz.ok
 simp only at hz k4 ⊢
 (repeat' (first|(apply W2 13;refine StopW.out ?_)|refine Xe ?_))
 refine ⟨?_⟩
 refine V1 (fun z:Bool×Pst=>([(1,ex (.pointer (some ⟨b1,0,none⟩))),(2,ex (.pointer (some ⟨b2,0,none⟩))),(3,ex (.pointer (some ⟨b3,0,none⟩))),(4,ex (.pointer (some ⟨b4,0,none⟩)))],[row b4 54 13 [exT nm,exI .i64 pn,exI .i64 qt,exI .i64 ct,exB false,exB z.1,exI .i64 0,exT [],exI .i64 0,exI .i64 0,ex (.slice none 0 0),exT [],exI .i64 (-1)],row b3 65 5 [ex (.slice none 0 0),exI .i64 0,exI .i64 0,exB false,exI .i64 0],row b2 54 13 [exT [],exI .i64 0,exI .i64 0,exI .i64 0,exB false,exB false,exI .i64 0,exT [],exI .i64 0,exI .i64 0,ex (.slice none 0 0),exT [],exI .i64 0],row b1 65 5 (Vr l en z.2)])) (fun z=>Step l en (Xoe wFree) q4 z.1 z.2) ?_ fun z hy=>?_
 · (repeat' (first|refine Xe ?_|refine Xb ?_|refine Xc ?_|(apply Xn;(first|exact Ya2|exact Yad);exact rfl)|refine Xs ?_|(apply Xh;exact rfl;first|(apply Xi;first|(refine Xq Tryz.func95 rfl (Vy hl hv Yaq _ Yao) rfl ?_;rintro _ _ ⟨rfl,rfl⟩)|(refine Xq Tryz.func101 rfl (U3 hl hv Yaq _ Yao) rfl ?_;rintro _ _ ⟨⟨p1,hs,rfl⟩,rfl⟩;have hp1:=hs.ok))|(apply Xt;first|refine Xj (k:=0) (l0:=[]) rfl rfl rfl ?_|refine Xj (k:=3) (l0:=[]) rfl rfl rfl ?_))|(refine Xp rfl (fun hb=>?_) (fun hb=>?_)<;>(repeat (fail))<;>(try (exfalso;fail)))))
   all_goals (refine Wo (Q:=fun _ _ _=>True) (_,_) Yek (Xg (by repeat (first|exact Xr|refine Xl rfl ?_)) (List.Sublist.refl _)))
 obtain ⟨fr,q5⟩:=z
 have k5:=hy.ok
 simp only at hy k5 ⊢
 (repeat' (first|(apply W2 16;refine StopW.out ?_)|refine Xe ?_))
 refine ⟨?_⟩
 refine V1 (fun z:Nat×(Bool×Ex)×Pst=>([(1,ex (.pointer (some ⟨b1,0,none⟩))),(2,ex (.pointer (some ⟨b2,0,none⟩))),(3,ex (.pointer (some ⟨b3,0,none⟩))),(4,ex (.pointer (some ⟨b4,0,none⟩)))],[row b4 54 13 [exT nm,exI .i64 pn,exI .i64 qt,exI .i64 ct,exB z.2.1.1,exB fr,exI .i64 z.2.1.2.kind,exT z.2.1.2.name,exI .i64 z.2.1.2.n,exI .i64 z.2.1.2.d,exL z.1 z.2.1.2.l,exT [],exI .i64 (-1)],row b3 65 5 [ex (.slice none 0 0),exI .i64 0,exI .i64 0,exB false,exI .i64 0],row b2 54 13 [exT [],exI .i64 0,exI .i64 0,exI .i64 0,exB false,exB false,exI .i64 0,exT [],exI .i64 0,exI .i64 0,ex (.slice none 0 0),exT [],exI .i64 0],row b1 65 5 (Vr l en z.2.2)])) (fun z=>Step l en scoreP q5 z.2.1 z.2.2) ?_ fun z hx=>?_
 · (repeat' (first|refine Xe ?_|refine Xb ?_|refine Xc ?_|(apply Xn;exact Ydf;exact rfl)|(apply Xh;exact rfl;first|(apply Xi;first|(refine Xq Tryz.func95 rfl (Vy hl hv Yaq _ Yao) rfl ?_;rintro _ _ ⟨rfl,rfl⟩)|(refine Xq Tryz.func101 rfl (U3 hl hv Yaq _ Yao) rfl ?_;rintro _ _ ⟨⟨p1,hs,rfl⟩,rfl⟩;have hp1:=hs.ok)|(refine Xq Tryz.func164 rfl (Xnx hl hv Yaq) rfl ?_;rintro _ _ ⟨⟨k1,x1,p1,hs,rfl⟩,rfl⟩;have hp1:=hs.ok))|(apply Xt;first|refine Xj (k:=0) (l0:=[]) rfl rfl rfl ?_|refine Xj (k:=3) (l0:=[]) rfl rfl rfl ?_))|(refine Xp rfl (fun hb=>?_) (fun hb=>?_)<;>(repeat (fail))<;>(try (exfalso;fail)))))
   · exact Wo (Q:=fun _ _ _=>True) (1,(true,.mk 0 [] 0 0 []),_) (by unfold scoreP;repeat' (first|assumption|exact Step.ret Yaq|(apply Step.ifT;assumption)|apply Step.bnd)) (Leads.trans (Vj (k:=0) (qs:=[exT nm,exI .i64 pn,exI .i64 qt,exI .i64 ct,exB true,exB fr,exI .i64 0,exT [],exI .i64 0,exI .i64 0,exL 1 [],exT [],exI .i64 (-1)]) rfl (by repeat (first|exact Ims.nil|refine Ims.cons Im.nil ?_|refine Ims.cons (Im.refl _) ?_))) (Xg (by repeat (first|exact Xr|refine Xl rfl ?_)) (List.Sublist.refl _)))
   · exact Wo (Q:=fun _ _ _=>True) (_,(false,_),_) (by unfold scoreP;repeat' (first|assumption|exact Step.ret Yaq|(apply Step.ifT;assumption)|(apply Step.ifF;assumption)|apply Step.bnd)) (Xg (by repeat (first|exact Xr|refine Xl rfl ?_)) (List.Sublist.refl _))
 obtain ⟨ks,⟨pl,sc⟩,q6⟩:=z
 have k6:=hx.ok
 simp only at hx k6 ⊢
 (repeat' (first|(apply W2 20;refine StopW.out ?_)|refine Xe ?_))
 refine ⟨?_⟩
 refine V1 (fun z:(List UInt8×Int)×Pst=>([(1,ex (.pointer (some ⟨b1,0,none⟩))),(2,ex (.pointer (some ⟨b2,0,none⟩))),(3,ex (.pointer (some ⟨b3,0,none⟩))),(4,ex (.pointer (some ⟨b4,0,none⟩)))],[row b4 54 13 [exT nm,exI .i64 pn,exI .i64 qt,exI .i64 ct,exB pl,exB fr,exI .i64 sc.kind,exT sc.name,exI .i64 sc.n,exI .i64 sc.d,exL ks sc.l,exT z.1.1,exI .i64 z.1.2],row b3 65 5 [ex (.slice none 0 0),exI .i64 0,exI .i64 0,exB false,exI .i64 0],row b2 54 13 [exT [],exI .i64 0,exI .i64 0,exI .i64 0,exB false,exB false,exI .i64 0,exT [],exI .i64 0,exI .i64 0,ex (.slice none 0 0),exT [],exI .i64 0],row b1 65 5 (Vr l en z.2)])) (fun z=>Step l en tieRefP q6 z.1 z.2) ?_ fun z hw=>?_
 · (repeat' (first|refine Xe ?_|refine Xb ?_|refine Xc ?_|(apply Xn;exact Ydf;exact rfl)|refine Xs ?_|(apply Xh;exact rfl;first|(apply Xi;first|(refine Xq Tryz.func95 rfl (Vy hl hv Yaq _ Yao) rfl ?_;rintro _ _ ⟨rfl,rfl⟩)|(refine Xq Tryz.func93 rfl (Rb hl hv Yaq _ Yao) rfl ?_;rintro _ _ ⟨⟨x1,p1,hs,rfl⟩,rfl⟩;have hp1:=hs.ok))|(apply Xt;first|refine Xj (k:=0) (l0:=[]) rfl rfl rfl ?_|refine Xj (k:=3) (l0:=[]) rfl rfl rfl ?_))|(refine Xp rfl (fun hb=>?_) (fun hb=>?_)<;>(repeat (fail))<;>(try (exfalso;fail)))))
   all_goals (refine Wo (Q:=fun _ _ _=>True) ((_,_),_) (by unfold tieRefP;repeat' (first|assumption|exact Step.ret Yaq|(apply Step.ifT;assumption)|(apply Step.ifF;assumption)|apply Step.bnd)) (Xg (by repeat (first|exact Xr|refine Xl rfl ?_)) (List.Sublist.refl _)))
 obtain ⟨⟨tn,no⟩,q7⟩:=z
 have k7:=hw.ok
 simp only at hw k7 ⊢
 (repeat' (first|(apply Wa 23;refine StopW.out ?_)|refine Xe ?_))
 refine ⟨?_⟩
 (refine Wt 3 rfl ?_)
 all_goals ((apply Xv 0 rfl Yaa rfl Yaa Yab Xa;(exact Ybg);exact rfl))
 all_goals ((apply Xu 1 Yaa rfl Xa (fun _ _ _=>trivial);apply Tm (H:=fun _=>True);(exact Ya2);exact rfl))
 all_goals ((apply Xu 2;exact Yaa;exact rfl;exact Xa;exact (fun _ _ h=>h);(apply Xi;(refine Xq Tryz.func94 rfl (Ux hl hv Yaq _ Yao) rfl ?_;rintro _ _ ⟨⟨p1,hs,rfl⟩,rfl⟩;have hp1:=hs.ok))))
 all_goals ((apply Xu 3;exact Yaa;exact rfl;exact Xa;exact (fun h=>absurd h Yao);(apply Xt;refine Xj (k:=2) (l0:=[]) rfl rfl rfl ?_)))
 all_goals ((apply Xu 4;exact Yaa;exact rfl;exact Xa;exact (fun h=>absurd h Yao);(apply Xt;refine Xj (k:=1) (l0:=[]) rfl rfl rfl ?_)))
 all_goals (refine X9 Yaa ?_)
 all_goals ((repeat' (refine Xw ?_)))
 all_goals (have hE:Step l en (Xb2 roundB) p ⟨nm,pn,qt,ct,pl,fr,sc,tn,no⟩ p1:=(by unfold Xb2 roundB;repeat' (first|assumption|exact Step.ret Yaq|(apply Step.ifT;assumption)|(apply Step.ifF;assumption)|apply Step.bnd));exact ⟨.inr rfl,S8 rfl (.cella (k:=2) rfl rfl rfl rfl inferInstance rfl) (.cella (k:=1) rfl rfl rfl rfl inferInstance rfl) (List.nil_sublist _) ⟨⟨ks,_,_,hE,by rfl⟩,rfl⟩⟩)
end Go.Proofs.YthdldeenpgeemaaGreatDoor
namespace Go.Sx
open Go.Lx Go.Fr
variable {l:List TokD} {en:Nat} {p p1:Pst}
theorem Step.fin (h:POk l p):Step l en Xpb p () (if p.n<l.length then p.fail l en else p):=by
 by_cases hlt:p.n<l.length
 · rw [if_pos hlt]
   have hf:=Step.fail (en:=en) h (x:=())
   refine ⟨hf.ok,hf.bad,fun hb=>?_⟩
   have h2:=hf.good hb
   have hne:l.drop p.n≠[]:=fun e=>by have:=congrArg List.length e;rw [List.length_drop,List.length_nil] at this;omega
   unfold Xpb
   rw [if_neg hne];exact h2
 · rw [if_neg hlt]
   refine ⟨h,fun _=>rfl,fun hb=>?_⟩
   have he:l.drop p.n=[]:=List.drop_eq_nil_of_le Yan
   rw [he]
   exact ⟨rfl,hb,rfl⟩
end Go.Sx
namespace Go.Proofs.YthdldeenpgeemaaGreatDoor
open Go Go.RowKit Go.Kx Go.Fr Go.Lx Go.Sx
variable {l:List TokD} {en:Nat} {p p1:Pst}
theorem Xmc {α:Type} (item:List TokD→Res α) (acc:List α):Vn item acc=bnd (Xb2 item) fun x=>ret (acc++[x]):=by
 unfold Vn Xb2
 rw [Xck]
 congr 1;funext x
 rw [Xck];rfl
theorem Qv {α:Type} {item:List TokD→Res α} {acc:List α} {x:α} (h:Step l en (Xb2 item) p x p1):Step l en (Vn item acc) p (acc++[x]) p1:=by
 rw [Xmc];exact h.bnd (Step.ret h.ok)
theorem Xmd (hl:l.length≤70000) (hv:Va l) (hp:POk l p):FnC Tryz.prog 30 [agg (Vr l en p)] [] (fun q loc=>(∃k x p',Step l en rulesP p x p'∧q=tup [agg (Wq k x),agg (Vr l en p')])∧loc=[]):=by
 refine X3 Tryz.func30 rfl Tryz.ntmps30 rfl fun w0 F0 out=>?_
 have hb0: ∀q:Pst,q.left l≤l.length+1:=fun q=>by unfold Pst.left;split<;>omega
 (repeat' (first|refine Xe ?_|refine Xb ?_|refine Xc ?_|(apply Xn;exact Ydo;exact rfl)|refine Xo ?_|(apply Xh;exact rfl;first|(apply Xi;first|(refine Xq Tryz.func93 rfl (Rb hl hv Yaq _ Yao) rfl ?_;rintro _ _ ⟨⟨x1,p1,hs,rfl⟩,rfl⟩;have hp1:=hs.ok)|(refine Xq Tryz.func94 rfl (Ux hl hv Yaq _ Yao) rfl ?_;rintro _ _ ⟨⟨p1,hs,rfl⟩,rfl⟩;have hp1:=hs.ok))|(apply Vp;refine W4 rfl ?_;intro _)|(apply Wb;refine X8 ?_;intro _)|(apply Xt;first|refine Xj (k:=0) (l0:=[]) rfl rfl rfl ?_|refine Xj (k:=3) (l0:=[]) rfl rfl rfl ?_))))
 rename_i b1 b2 b3 b4 q9 h9 k9
 revert x1 p1
 intro nm h9 q0 h0 k0
 refine X7 (env':=[(1,ex (.pointer (some ⟨b1,0,none⟩))),(2,ex (.pointer (some ⟨b2,0,none⟩))),(3,ex (.pointer (some ⟨b3,0,none⟩))),(4,ex (.pointer (some ⟨b4,0,none⟩)))]) (loc':=[row b4 29 9 [exT nm,ex (.slice none 0 0),ex (.slice none 0 0),ex (.slice none 0 0),ex (.slice none 0 0),ex (.slice none 0 0),ex (.slice none 0 0),ex (.slice none 0 0),exI .i64 0],row b3 65 5 [ex (.slice none 0 0),exI .i64 0,exI .i64 0,exB false,exI .i64 0],row b2 29 9 [exT [],ex (.slice none 0 0),ex (.slice none 0 0),ex (.slice none 0 0),ex (.slice none 0 0),ex (.slice none 0 0),ex (.slice none 0 0),ex (.slice none 0 0),exI .i64 0],row b1 65 5 (Vr l en q0)]) (Xg (by repeat (first|exact Xr|refine Xl rfl ?_)) (List.Sublist.refl _)) ?_
 refine X7 (Vj (k:=0) (qs:=[exT nm,ex (.slice none 0 0),ex (.slice none 0 0),ex (.slice none 0 0),ex (.slice none 0 0),ex (.slice none 0 0),isl eI [],isl eI [],exI .i64 0]) rfl (by repeat (first|exact Ims.nil|refine Ims.cons Im.nil ?_|refine Ims.cons (Im.refl _) ?_))) ?_
 refine Ws (fun z:Option Addr×Nat×List _×Pst=>([(1,ex (.pointer (some ⟨b1,0,none⟩))),(2,ex (.pointer (some ⟨b2,0,none⟩))),(3,ex (.pointer (some ⟨b3,0,none⟩))),(4,ex (.pointer (some ⟨b4,0,none⟩)))],[vec (.slice z.1 z.2.2.1.length z.2.1) 70 7 z.2.2.1.length (z.2.2.1.flatMap critV),row b4 29 9 [exT nm,ex (.slice z.1 z.2.2.1.length z.2.1),ex (.slice none 0 0),ex (.slice none 0 0),ex (.slice none 0 0),ex (.slice none 0 0),isl eI [],isl eI [],exI .i64 0],row b3 65 5 [ex (.slice none 0 0),exI .i64 0,exI .i64 0,exB false,exI .i64 0],row b2 29 9 [exT [],ex (.slice none 0 0),ex (.slice none 0 0),ex (.slice none 0 0),ex (.slice none 0 0),ex (.slice none 0 0),ex (.slice none 0 0),ex (.slice none 0 0),exI .i64 0],row b1 65 5 (Vr l en z.2.2.2)])) (fun z=>POk l z.2.2.2∧z.2.2.1.length+z.2.2.2.left l≤70002∧ ∀y q,Step l en (Q9 (isT wCriterion) (Vn critB) z.2.2.1) z.2.2.2 y q→Step l en (Tn wCriterion critB) q0 y q) (fun z=>z.2.2.2.left l) (none,0,[],q0) ?_ ⟨k0,by have:=hb0 q0;show 0+q0.left l≤70002;omega,fun y q h=>h⟩ fun z hz=>?_
 · exact Uq 70 7 (Xg (by repeat (first|exact Xr|refine Xl rfl ?_)) (List.Sublist.refl _))
 obtain ⟨oa,c,s1,q1⟩:=z
 obtain ⟨k1,hacc,hinv⟩:=hz
 simp only at k1 hacc hinv ⊢
 have hq:=hb0 q1
 cases ht:tst l (isT wCriterion) q1
 rotate_left
 · have hlt:=U2 ht
   have hW:FnC Tryz.prog 95 [agg (Vr l en q1),exT wCriterion] [] (fun q loc=>q=exB true∧loc=[]):=by rw [←ht];exact Vy hl hv k1 _ Yao
   (repeat' (first|(apply W2 6;refine StopW.out ?_)|refine Xe ?_|refine Xb ?_|refine Xc ?_|(apply Xn;exact Ydj;exact rfl)|refine Xo ?_|refine Xs ?_|refine Xx rfl ?_|(apply Xh;exact rfl;first|(apply Xi;first|(refine Xq Tryz.func95 rfl hW rfl ?_;rintro _ _ ⟨rfl,rfl⟩)|(refine Xq Tryz.func96 rfl (Xfy hl hv Yaq) rfl ?_;rintro _ _ ⟨⟨x1,p1,hs,rfl⟩,rfl⟩;have hp1:=hs.ok))|(apply Wb;refine X8 ?_;intro _)|(apply Xt;first|refine Xj (k:=0) (l0:=[]) rfl rfl rfl ?_|refine Xj (k:=1) (l0:=[]) rfl rfl rfl ?_))))
   all_goals (try (exfalso;contradiction))
   refine ⟨?_⟩
   rename_i b6 b7
   have h1:Step l en (Vn critB s1) q1 (s1++[x1]) p1:=Qv hs
   have hlf:=Step.left (W9 less_crit s1) h1 hlt
   refine X7 (env':=[(5,ex (.pointer (some ⟨b6,0,none⟩))),(6,ex (.pointer (some ⟨b7,0,none⟩))),(1,ex (.pointer (some ⟨b1,0,none⟩))),(2,ex (.pointer (some ⟨b2,0,none⟩))),(3,ex (.pointer (some ⟨b3,0,none⟩))),(4,ex (.pointer (some ⟨b4,0,none⟩)))]) (loc':=[row b7 65 5 (Vr l en p1),row b6 70 7 (critV x1),vec (.slice oa s1.length c) 70 7 s1.length (s1.flatMap critV),row b4 29 9 [exT nm,ex (.slice oa s1.length c),ex (.slice none 0 0),ex (.slice none 0 0),ex (.slice none 0 0),ex (.slice none 0 0),isl eI [],isl eI [],exI .i64 0],row b3 65 5 [ex (.slice none 0 0),exI .i64 0,exI .i64 0,exB false,exI .i64 0],row b2 29 9 [exT [],ex (.slice none 0 0),ex (.slice none 0 0),ex (.slice none 0 0),ex (.slice none 0 0),ex (.slice none 0 0),ex (.slice none 0 0),ex (.slice none 0 0),exI .i64 0],row b1 65 5 (Vr l en q1)]) (Xg (by repeat (first|exact Xr|refine Xl rfl ?_)) (List.Sublist.refl _)) ?_
   (repeat' (first|(refine Qo (k:=3) rfl Yan ?_;intro _ _ hv;subst hv)|refine Xe ?_|refine Xb ?_|refine Xc ?_|(apply Xn;exact Yb7;exact rfl)|(apply Xh;exact rfl;first|(apply Xt;first|refine Xj (k:=4) (l0:=[]) rfl rfl rfl ?_|refine Xj (k:=7) (l0:=[]) rfl rfl rfl ?_)|(apply Ve;((refine Vb (k:=3) (l0:=[]) rfl rfl Yby rfl ?_));intro _)|(apply X5;(refine X6 rfl rfl ?_);intro _))))
   rename_i b8 a9 c9
   refine ⟨(some ⟨a9,0,none⟩,c9,s1++[x1],p1),⟨hp1,by simp only [List.length_append,List.length_cons,List.length_nil];omega,fun y q h=>hinv y q (Step.run_go rfl (W9 less_crit) ht h1 h)⟩,hlf,?_⟩
   simp only [List.length_append,List.flatMap_append,List.length_cons,List.length_nil,List.flatMap_cons,List.flatMap_nil,List.append_nil]
   exact Xg (by repeat (first|exact Xr|refine Xl rfl ?_)) Ybs
 have hW:FnC Tryz.prog 95 [agg (Vr l en q1),exT wCriterion] [] (fun q loc=>q=exB false∧loc=[]):=by rw [←ht];exact Vy hl hv k1 _ Yao
 have hE1:=hinv _ _ (Step.run_stop rfl (W9 less_crit) ht k1)
 (repeat' (first|refine Xe ?_|refine Xb ?_|refine Xc ?_|(apply Xn;(exact Ybz);exact rfl)|refine Xo ?_|refine Wm ?_|refine Xy rfl ?_|(apply Xh;exact rfl;(apply Xi;(refine Xq Tryz.func95 rfl hW rfl ?_;rintro _ _ ⟨rfl,rfl⟩)))))
 all_goals (try (exfalso;contradiction))
 refine X7 (Vi (j:=0) (k:=0) (i:=1) (E:=eCrit) s1 rfl rfl rfl rfl rfl rfl (hby:=by show _ * 64≤_;omega)) ?_
 clear hW hacc hinv hq ht
 refine Ws (fun z:Option Addr×Nat×List _×Pst=>([(1,ex (.pointer (some ⟨b1,0,none⟩))),(2,ex (.pointer (some ⟨b2,0,none⟩))),(3,ex (.pointer (some ⟨b3,0,none⟩))),(4,ex (.pointer (some ⟨b4,0,none⟩)))],[vec (.slice z.1 z.2.2.1.length z.2.1) 106 3 z.2.2.1.length (z.2.2.1.flatMap itemV),row b4 29 9 [exT nm,isl eCrit s1,ex (.slice z.1 z.2.2.1.length z.2.1),ex (.slice none 0 0),ex (.slice none 0 0),ex (.slice none 0 0),isl eI [],isl eI [],exI .i64 0],row b3 65 5 [ex (.slice none 0 0),exI .i64 0,exI .i64 0,exB false,exI .i64 0],row b2 29 9 [exT [],ex (.slice none 0 0),ex (.slice none 0 0),ex (.slice none 0 0),ex (.slice none 0 0),ex (.slice none 0 0),ex (.slice none 0 0),ex (.slice none 0 0),exI .i64 0],row b1 65 5 (Vr l en z.2.2.2)])) (fun z=>POk l z.2.2.2∧z.2.2.1.length+z.2.2.2.left l≤70002∧ ∀y q,Step l en (Q9 (isT wBonus) (Vn (Sj wBonus)) z.2.2.1) z.2.2.2 y q→Step l en (Tn wBonus (Sj wBonus)) q1 y q) (fun z=>z.2.2.2.left l) (none,0,[],q1) ?_ ⟨k1,by have:=hb0 q1;show 0+q1.left l≤70002;omega,fun y q h=>h⟩ fun z hz=>?_
 · exact Uq 106 3 (Xg (by repeat (first|exact Xr|refine Xl rfl ?_)) (List.Sublist.refl _))
 obtain ⟨oa,c,s2,q2⟩:=z
 obtain ⟨k2,hacc,hinv⟩:=hz
 simp only at k2 hacc hinv ⊢
 have hq:=hb0 q2
 cases ht:tst l (isT wBonus) q2
 rotate_left
 · have hlt:=U2 ht
   have hW:FnC Tryz.prog 95 [agg (Vr l en q2),exT wBonus] [] (fun q loc=>q=exB true∧loc=[]):=by rw [←ht];exact Vy hl hv k2 _ Yao
   (repeat' (first|(apply W2 10;refine StopW.out ?_)|refine Xe ?_|refine Xb ?_|refine Xc ?_|(apply Xn;exact Ydj;exact rfl)|refine Xo ?_|refine Xs ?_|refine Xx rfl ?_|(apply Xh;exact rfl;first|(apply Xi;first|(refine Xq Tryz.func95 rfl hW rfl ?_;rintro _ _ ⟨rfl,rfl⟩)|(refine Xq Tryz.func97 rfl (Xkx hl hv Yaq _ Yao) rfl ?_;rintro _ _ ⟨⟨x1,p1,hs,rfl⟩,rfl⟩;have hp1:=hs.ok))|(apply Wb;refine X8 ?_;intro _)|(apply Xt;first|refine Xj (k:=0) (l0:=[]) rfl rfl rfl ?_|refine Xj (k:=1) (l0:=[]) rfl rfl rfl ?_))))
   all_goals (try (exfalso;contradiction))
   refine ⟨?_⟩
   rename_i b6 b7
   have h1:Step l en (Vn (Sj wBonus) s2) q2 (s2++[x1]) p1:=Qv hs
   have hlf:=Step.left (W9 (To _) s2) h1 hlt
   refine X7 (env':=[(7,ex (.pointer (some ⟨b6,0,none⟩))),(8,ex (.pointer (some ⟨b7,0,none⟩))),(1,ex (.pointer (some ⟨b1,0,none⟩))),(2,ex (.pointer (some ⟨b2,0,none⟩))),(3,ex (.pointer (some ⟨b3,0,none⟩))),(4,ex (.pointer (some ⟨b4,0,none⟩)))]) (loc':=[row b7 65 5 (Vr l en p1),row b6 106 3 (itemV x1),vec (.slice oa s2.length c) 106 3 s2.length (s2.flatMap itemV),row b4 29 9 [exT nm,isl eCrit s1,ex (.slice oa s2.length c),ex (.slice none 0 0),ex (.slice none 0 0),ex (.slice none 0 0),isl eI [],isl eI [],exI .i64 0],row b3 65 5 [ex (.slice none 0 0),exI .i64 0,exI .i64 0,exB false,exI .i64 0],row b2 29 9 [exT [],ex (.slice none 0 0),ex (.slice none 0 0),ex (.slice none 0 0),ex (.slice none 0 0),ex (.slice none 0 0),ex (.slice none 0 0),ex (.slice none 0 0),exI .i64 0],row b1 65 5 (Vr l en q2)]) (Xg (by repeat (first|exact Xr|refine Xl rfl ?_)) (List.Sublist.refl _)) ?_
   (repeat' (first|(refine Qo (k:=3) rfl Yan ?_;intro _ _ hv;subst hv)|refine Xe ?_|refine Xb ?_|refine Xc ?_|(apply Xn;exact Yb7;exact rfl)|(apply Xh;exact rfl;first|(apply Xt;first|refine Xj (k:=4) (l0:=[]) rfl rfl rfl ?_|refine Xj (k:=7) (l0:=[]) rfl rfl rfl ?_)|(apply Ve;((refine Vb (k:=3) (l0:=[]) rfl rfl Yby rfl ?_));intro _)|(apply X5;(refine X6 rfl rfl ?_);intro _))))
   rename_i b8 a9 c9
   refine ⟨(some ⟨a9,0,none⟩,c9,s2++[x1],p1),⟨hp1,by simp only [List.length_append,List.length_cons,List.length_nil];omega,fun y q h=>hinv y q (Step.run_go rfl (W9 (To _)) ht h1 h)⟩,hlf,?_⟩
   simp only [List.length_append,List.flatMap_append,List.length_cons,List.length_nil,List.flatMap_cons,List.flatMap_nil,List.append_nil]
   exact Xg (by repeat (first|exact Xr|refine Xl rfl ?_)) Ybs
 have hW:FnC Tryz.prog 95 [agg (Vr l en q2),exT wBonus] [] (fun q loc=>q=exB false∧loc=[]):=by rw [←ht];exact Vy hl hv k2 _ Yao
 have hE2:=hinv _ _ (Step.run_stop rfl (W9 (To _)) ht k2)
 (repeat' (first|refine Xe ?_|refine Xb ?_|refine Xc ?_|(apply Xn;(exact Ybz);exact rfl)|refine Xo ?_|refine Wm ?_|refine Xy rfl ?_|(apply Xh;exact rfl;(apply Xi;(refine Xq Tryz.func95 rfl hW rfl ?_;rintro _ _ ⟨rfl,rfl⟩)))))
 all_goals (try (exfalso;contradiction))
 refine X7 (Vi (j:=0) (k:=0) (i:=2) (E:=eItem) s2 rfl rfl rfl rfl rfl rfl (hby:=by show _ * 32≤_;omega)) ?_
 clear hW hacc hinv hq ht
 refine Ws (fun z:Option Addr×Nat×List _×Pst=>([(1,ex (.pointer (some ⟨b1,0,none⟩))),(2,ex (.pointer (some ⟨b2,0,none⟩))),(3,ex (.pointer (some ⟨b3,0,none⟩))),(4,ex (.pointer (some ⟨b4,0,none⟩)))],[vec (.slice z.1 z.2.2.1.length z.2.1) 106 3 z.2.2.1.length (z.2.2.1.flatMap itemV),row b4 29 9 [exT nm,isl eCrit s1,isl eItem s2,ex (.slice z.1 z.2.2.1.length z.2.1),ex (.slice none 0 0),ex (.slice none 0 0),isl eI [],isl eI [],exI .i64 0],row b3 65 5 [ex (.slice none 0 0),exI .i64 0,exI .i64 0,exB false,exI .i64 0],row b2 29 9 [exT [],ex (.slice none 0 0),ex (.slice none 0 0),ex (.slice none 0 0),ex (.slice none 0 0),ex (.slice none 0 0),ex (.slice none 0 0),ex (.slice none 0 0),exI .i64 0],row b1 65 5 (Vr l en z.2.2.2)])) (fun z=>POk l z.2.2.2∧z.2.2.1.length+z.2.2.2.left l≤70002∧ ∀y q,Step l en (Q9 (isT wMalus) (Vn (Sj wMalus)) z.2.2.1) z.2.2.2 y q→Step l en (Tn wMalus (Sj wMalus)) q2 y q) (fun z=>z.2.2.2.left l) (none,0,[],q2) ?_ ⟨k2,by have:=hb0 q2;show 0+q2.left l≤70002;omega,fun y q h=>h⟩ fun z hz=>?_
 · exact Uq 106 3 (Xg (by repeat (first|exact Xr|refine Xl rfl ?_)) (List.Sublist.refl _))
 obtain ⟨oa,c,s3,q3⟩:=z
 obtain ⟨k3,hacc,hinv⟩:=hz
 simp only at k3 hacc hinv ⊢
 have hq:=hb0 q3
 cases ht:tst l (isT wMalus) q3
 rotate_left
 · have hlt:=U2 ht
   have hW:FnC Tryz.prog 95 [agg (Vr l en q3),exT wMalus] [] (fun q loc=>q=exB true∧loc=[]):=by rw [←ht];exact Vy hl hv k3 _ Yao
   (repeat' (first|(apply W2 14;refine StopW.out ?_)|refine Xe ?_|refine Xb ?_|refine Xc ?_|(apply Xn;exact Ydj;exact rfl)|refine Xo ?_|refine Xs ?_|refine Xx rfl ?_|(apply Xh;exact rfl;first|(apply Xi;first|(refine Xq Tryz.func95 rfl hW rfl ?_;rintro _ _ ⟨rfl,rfl⟩)|(refine Xq Tryz.func97 rfl (Xkx hl hv Yaq _ Yao) rfl ?_;rintro _ _ ⟨⟨x1,p1,hs,rfl⟩,rfl⟩;have hp1:=hs.ok))|(apply Wb;refine X8 ?_;intro _)|(apply Xt;first|refine Xj (k:=0) (l0:=[]) rfl rfl rfl ?_|refine Xj (k:=1) (l0:=[]) rfl rfl rfl ?_))))
   all_goals (try (exfalso;contradiction))
   refine ⟨?_⟩
   rename_i b6 b7
   have h1:Step l en (Vn (Sj wMalus) s3) q3 (s3++[x1]) p1:=Qv hs
   have hlf:=Step.left (W9 (To _) s3) h1 hlt
   refine X7 (env':=[(9,ex (.pointer (some ⟨b6,0,none⟩))),(10,ex (.pointer (some ⟨b7,0,none⟩))),(1,ex (.pointer (some ⟨b1,0,none⟩))),(2,ex (.pointer (some ⟨b2,0,none⟩))),(3,ex (.pointer (some ⟨b3,0,none⟩))),(4,ex (.pointer (some ⟨b4,0,none⟩)))]) (loc':=[row b7 65 5 (Vr l en p1),row b6 106 3 (itemV x1),vec (.slice oa s3.length c) 106 3 s3.length (s3.flatMap itemV),row b4 29 9 [exT nm,isl eCrit s1,isl eItem s2,ex (.slice oa s3.length c),ex (.slice none 0 0),ex (.slice none 0 0),isl eI [],isl eI [],exI .i64 0],row b3 65 5 [ex (.slice none 0 0),exI .i64 0,exI .i64 0,exB false,exI .i64 0],row b2 29 9 [exT [],ex (.slice none 0 0),ex (.slice none 0 0),ex (.slice none 0 0),ex (.slice none 0 0),ex (.slice none 0 0),ex (.slice none 0 0),ex (.slice none 0 0),exI .i64 0],row b1 65 5 (Vr l en q3)]) (Xg (by repeat (first|exact Xr|refine Xl rfl ?_)) (List.Sublist.refl _)) ?_
   (repeat' (first|(refine Qo (k:=3) rfl Yan ?_;intro _ _ hv;subst hv)|refine Xe ?_|refine Xb ?_|refine Xc ?_|(apply Xn;exact Yb7;exact rfl)|(apply Xh;exact rfl;first|(apply Xt;first|refine Xj (k:=4) (l0:=[]) rfl rfl rfl ?_|refine Xj (k:=7) (l0:=[]) rfl rfl rfl ?_)|(apply Ve;((refine Vb (k:=3) (l0:=[]) rfl rfl Yby rfl ?_));intro _)|(apply X5;(refine X6 rfl rfl ?_);intro _))))
   rename_i b8 a9 c9
   refine ⟨(some ⟨a9,0,none⟩,c9,s3++[x1],p1),⟨hp1,by simp only [List.length_append,List.length_cons,List.length_nil];omega,fun y q h=>hinv y q (Step.run_go rfl (W9 (To _)) ht h1 h)⟩,hlf,?_⟩
   simp only [List.length_append,List.flatMap_append,List.length_cons,List.length_nil,List.flatMap_cons,List.flatMap_nil,List.append_nil]
   exact Xg (by repeat (first|exact Xr|refine Xl rfl ?_)) Ybs
 have hW:FnC Tryz.prog 95 [agg (Vr l en q3),exT wMalus] [] (fun q loc=>q=exB false∧loc=[]):=by rw [←ht];exact Vy hl hv k3 _ Yao
 have hE3:=hinv _ _ (Step.run_stop rfl (W9 (To _)) ht k3)
 (repeat' (first|refine Xe ?_|refine Xb ?_|refine Xc ?_|(apply Xn;(exact Ybz);exact rfl)|refine Xo ?_|refine Wm ?_|refine Xy rfl ?_|(apply Xh;exact rfl;(apply Xi;(refine Xq Tryz.func95 rfl hW rfl ?_;rintro _ _ ⟨rfl,rfl⟩)))))
 all_goals (try (exfalso;contradiction))
 refine X7 (Vi (j:=0) (k:=0) (i:=3) (E:=eItem) s3 rfl rfl rfl rfl rfl rfl (hby:=by show _ * 32≤_;omega)) ?_
 clear hW hacc hinv hq ht
 refine Ws (fun z:Option Addr×Nat×List _×Pst=>([(1,ex (.pointer (some ⟨b1,0,none⟩))),(2,ex (.pointer (some ⟨b2,0,none⟩))),(3,ex (.pointer (some ⟨b3,0,none⟩))),(4,ex (.pointer (some ⟨b4,0,none⟩)))],[vec (.slice z.1 z.2.2.1.length z.2.1) 74 2 z.2.2.1.length (z.2.2.1.flatMap Xb6),row b4 29 9 [exT nm,isl eCrit s1,isl eItem s2,isl eItem s3,ex (.slice z.1 z.2.2.1.length z.2.1),ex (.slice none 0 0),isl eI [],isl eI [],exI .i64 0],row b3 65 5 [ex (.slice none 0 0),exI .i64 0,exI .i64 0,exB false,exI .i64 0],row b2 29 9 [exT [],ex (.slice none 0 0),ex (.slice none 0 0),ex (.slice none 0 0),ex (.slice none 0 0),ex (.slice none 0 0),ex (.slice none 0 0),ex (.slice none 0 0),exI .i64 0],row b1 65 5 (Vr l en z.2.2.2)])) (fun z=>POk l z.2.2.2∧z.2.2.1.length+z.2.2.2.left l≤70002∧ ∀y q,Step l en (Q9 (isT wTie) (Vn tieB) z.2.2.1) z.2.2.2 y q→Step l en (Tn wTie tieB) q3 y q) (fun z=>z.2.2.2.left l) (none,0,[],q3) ?_ ⟨k3,by have:=hb0 q3;show 0+q3.left l≤70002;omega,fun y q h=>h⟩ fun z hz=>?_
 · exact Uq 74 2 (Xg (by repeat (first|exact Xr|refine Xl rfl ?_)) (List.Sublist.refl _))
 obtain ⟨oa,c,s4,q4⟩:=z
 obtain ⟨k4,hacc,hinv⟩:=hz
 simp only at k4 hacc hinv ⊢
 have hq:=hb0 q4
 cases ht:tst l (isT wTie) q4
 rotate_left
 · have hlt:=U2 ht
   have hW:FnC Tryz.prog 95 [agg (Vr l en q4),exT wTie] [] (fun q loc=>q=exB true∧loc=[]):=by rw [←ht];exact Vy hl hv k4 _ Yao
   (repeat' (first|(apply W2 18;refine StopW.out ?_)|refine Xe ?_|refine Xb ?_|refine Xc ?_|(apply Xn;exact Ydj;exact rfl)|refine Xo ?_|refine Xs ?_|refine Xx rfl ?_|(apply Xh;exact rfl;first|(apply Xi;first|(refine Xq Tryz.func95 rfl hW rfl ?_;rintro _ _ ⟨rfl,rfl⟩)|(refine Xq Tryz.func98 rfl (Xp4 hl hv Yaq) rfl ?_;rintro _ _ ⟨⟨x1,p1,hs,rfl⟩,rfl⟩;have hp1:=hs.ok))|(apply Wb;refine X8 ?_;intro _)|(apply Xt;first|refine Xj (k:=0) (l0:=[]) rfl rfl rfl ?_|refine Xj (k:=1) (l0:=[]) rfl rfl rfl ?_))))
   all_goals (try (exfalso;contradiction))
   refine ⟨?_⟩
   rename_i b6 b7
   have h1:Step l en (Vn tieB s4) q4 (s4++[x1]) p1:=Qv hs
   have hlf:=Step.left (W9 less_tie s4) h1 hlt
   refine X7 (env':=[(11,ex (.pointer (some ⟨b6,0,none⟩))),(12,ex (.pointer (some ⟨b7,0,none⟩))),(1,ex (.pointer (some ⟨b1,0,none⟩))),(2,ex (.pointer (some ⟨b2,0,none⟩))),(3,ex (.pointer (some ⟨b3,0,none⟩))),(4,ex (.pointer (some ⟨b4,0,none⟩)))]) (loc':=[row b7 65 5 (Vr l en p1),row b6 74 2 (Xb6 x1),vec (.slice oa s4.length c) 74 2 s4.length (s4.flatMap Xb6),row b4 29 9 [exT nm,isl eCrit s1,isl eItem s2,isl eItem s3,ex (.slice oa s4.length c),ex (.slice none 0 0),isl eI [],isl eI [],exI .i64 0],row b3 65 5 [ex (.slice none 0 0),exI .i64 0,exI .i64 0,exB false,exI .i64 0],row b2 29 9 [exT [],ex (.slice none 0 0),ex (.slice none 0 0),ex (.slice none 0 0),ex (.slice none 0 0),ex (.slice none 0 0),ex (.slice none 0 0),ex (.slice none 0 0),exI .i64 0],row b1 65 5 (Vr l en q4)]) (Xg (by repeat (first|exact Xr|refine Xl rfl ?_)) (List.Sublist.refl _)) ?_
   (repeat' (first|(refine Qo (k:=3) rfl Yan ?_;intro _ _ hv;subst hv)|refine Xe ?_|refine Xb ?_|refine Xc ?_|(apply Xn;exact Yb7;exact rfl)|(apply Xh;exact rfl;first|(apply Xt;first|refine Xj (k:=4) (l0:=[]) rfl rfl rfl ?_|refine Xj (k:=7) (l0:=[]) rfl rfl rfl ?_)|(apply Ve;((refine Vb (k:=3) (l0:=[]) rfl rfl Yby rfl ?_));intro _)|(apply X5;(refine X6 rfl rfl ?_);intro _))))
   rename_i b8 a9 c9
   refine ⟨(some ⟨a9,0,none⟩,c9,s4++[x1],p1),⟨hp1,by simp only [List.length_append,List.length_cons,List.length_nil];omega,fun y q h=>hinv y q (Step.run_go rfl (W9 less_tie) ht h1 h)⟩,hlf,?_⟩
   simp only [List.length_append,List.flatMap_append,List.length_cons,List.length_nil,List.flatMap_cons,List.flatMap_nil,List.append_nil]
   exact Xg (by repeat (first|exact Xr|refine Xl rfl ?_)) Ybs
 have hW:FnC Tryz.prog 95 [agg (Vr l en q4),exT wTie] [] (fun q loc=>q=exB false∧loc=[]):=by rw [←ht];exact Vy hl hv k4 _ Yao
 have hE4:=hinv _ _ (Step.run_stop rfl (W9 less_tie) ht k4)
 (repeat' (first|refine Xe ?_|refine Xb ?_|refine Xc ?_|(apply Xn;(exact Ybz);exact rfl)|refine Xo ?_|refine Wm ?_|refine Xy rfl ?_|(apply Xh;exact rfl;(apply Xi;(refine Xq Tryz.func95 rfl hW rfl ?_;rintro _ _ ⟨rfl,rfl⟩)))))
 all_goals (try (exfalso;contradiction))
 refine X7 (Vi (j:=0) (k:=0) (i:=4) (E:=eTie) s4 rfl rfl rfl rfl rfl rfl (hby:=by show _ * 40≤_;omega)) ?_
 clear hW hacc hinv hq ht
 refine Ws (fun z:Nat×Option Addr×Nat×List _×Pst=>([(1,ex (.pointer (some ⟨b1,0,none⟩))),(2,ex (.pointer (some ⟨b2,0,none⟩))),(3,ex (.pointer (some ⟨b3,0,none⟩))),(4,ex (.pointer (some ⟨b4,0,none⟩)))],[vec (.slice z.2.1 z.2.2.2.1.length z.2.2.1) 54 13 z.2.2.2.1.length (z.2.2.2.1.flatMap (V9 z.1)),row b4 29 9 [exT nm,isl eCrit s1,isl eItem s2,isl eItem s3,isl eTie s4,ex (.slice z.2.1 z.2.2.2.1.length z.2.2.1),isl eI [],isl eI [],exI .i64 0],row b3 65 5 [ex (.slice none 0 0),exI .i64 0,exI .i64 0,exB false,exI .i64 0],row b2 29 9 [exT [],ex (.slice none 0 0),ex (.slice none 0 0),ex (.slice none 0 0),ex (.slice none 0 0),ex (.slice none 0 0),ex (.slice none 0 0),ex (.slice none 0 0),exI .i64 0],row b1 65 5 (Vr l en z.2.2.2.2)])) (fun z=>POk l z.2.2.2.2∧z.2.2.2.1.length+z.2.2.2.2.left l≤70002∧ ∀y q,Step l en (Q9 (isT wRound) (Vn roundB) z.2.2.2.1) z.2.2.2.2 y q→Step l en (Tn wRound roundB) q4 y q) (fun z=>z.2.2.2.2.left l) (0,none,0,[],q4) ?_ ⟨k4,by have:=hb0 q4;show 0+q4.left l≤70002;omega,fun y q h=>h⟩ fun z hz=>?_
 · exact Uq 54 13 (Xg (by repeat (first|exact Xr|refine Xl rfl ?_)) (List.Sublist.refl _))
 obtain ⟨K,oa,c,s5,q5⟩:=z
 obtain ⟨k5,hacc,hinv⟩:=hz
 simp only at k5 hacc hinv ⊢
 have hq:=hb0 q5
 cases ht:tst l (isT wRound) q5
 rotate_left
 · have hlt:=U2 ht
   have hW:FnC Tryz.prog 95 [agg (Vr l en q5),exT wRound] [] (fun q loc=>q=exB true∧loc=[]):=by rw [←ht];exact Vy hl hv k5 _ Yao
   (repeat' (first|(apply W2 22;refine StopW.out ?_)|refine Xe ?_|refine Xb ?_|refine Xc ?_|(apply Xn;exact Ydj;exact rfl)|refine Xo ?_|refine Xs ?_|refine Xx rfl ?_|(apply Xh;exact rfl;first|(apply Xi;first|(refine Xq Tryz.func95 rfl hW rfl ?_;rintro _ _ ⟨rfl,rfl⟩)|(refine Xq Tryz.func99 rfl (Xny hl hv Yaq) rfl ?_;rintro _ _ ⟨⟨k1,x1,p1,hs,rfl⟩,rfl⟩;have hp1:=hs.ok))|(apply Wb;refine X8 ?_;intro _)|(apply Xt;first|refine Xj (k:=0) (l0:=[]) rfl rfl rfl ?_|refine Xj (k:=1) (l0:=[]) rfl rfl rfl ?_))))
   all_goals (try (exfalso;contradiction))
   refine ⟨?_⟩
   rename_i b6 b7
   have h1:Step l en (Vn roundB s5) q5 (s5++[x1]) p1:=Qv hs
   have hlf:=Step.left (W9 less_round s5) h1 hlt
   refine X7 (env':=[(13,ex (.pointer (some ⟨b6,0,none⟩))),(14,ex (.pointer (some ⟨b7,0,none⟩))),(1,ex (.pointer (some ⟨b1,0,none⟩))),(2,ex (.pointer (some ⟨b2,0,none⟩))),(3,ex (.pointer (some ⟨b3,0,none⟩))),(4,ex (.pointer (some ⟨b4,0,none⟩)))]) (loc':=[row b7 65 5 (Vr l en p1),row b6 54 13 (V9 k1 x1),vec (.slice oa s5.length c) 54 13 s5.length (s5.flatMap (V9 K)),row b4 29 9 [exT nm,isl eCrit s1,isl eItem s2,isl eItem s3,isl eTie s4,ex (.slice oa s5.length c),isl eI [],isl eI [],exI .i64 0],row b3 65 5 [ex (.slice none 0 0),exI .i64 0,exI .i64 0,exB false,exI .i64 0],row b2 29 9 [exT [],ex (.slice none 0 0),ex (.slice none 0 0),ex (.slice none 0 0),ex (.slice none 0 0),ex (.slice none 0 0),ex (.slice none 0 0),ex (.slice none 0 0),exI .i64 0],row b1 65 5 (Vr l en q5)]) (Xg (by repeat (first|exact Xr|refine Xl rfl ?_)) (List.Sublist.refl _)) ?_
   (repeat' (first|(refine Qo (k:=3) rfl Yan ?_;intro _ _ hv;subst hv)|refine Xe ?_|refine Xb ?_|refine Xc ?_|(apply Xn;exact Yb7;exact rfl)|(apply Xh;exact rfl;first|(apply Xt;first|refine Xj (k:=4) (l0:=[]) rfl rfl rfl ?_|refine Xj (k:=7) (l0:=[]) rfl rfl rfl ?_)|(apply Ve;((refine Vb (k:=3) (l0:=[]) rfl rfl Yby rfl ?_));intro _)|(apply X5;(refine X6 rfl rfl ?_);intro _))))
   rename_i b8 a9 c9
   refine ⟨(max K k1,some ⟨a9,0,none⟩,c9,s5++[x1],p1),⟨hp1,by simp only [List.length_append,List.length_cons,List.length_nil];omega,fun y q h=>hinv y q (Step.run_go rfl (W9 less_round) ht h1 h)⟩,hlf,?_⟩
   refine Leads.trans (Sf (k:=3) (ps:=s5.flatMap (V9 K)++V9 k1 x1) rfl (Tr (Xcj (Nat.le_max_left K k1) s5) (Xci (Nat.le_max_right K k1) x1))) ?_
   simp only [List.length_append,List.flatMap_append,List.length_cons,List.length_nil,List.flatMap_cons,List.flatMap_nil,List.append_nil]
   exact Xg (by repeat (first|exact Xr|refine Xl rfl ?_)) Ybs
 have hW:FnC Tryz.prog 95 [agg (Vr l en q5),exT wRound] [] (fun q loc=>q=exB false∧loc=[]):=by rw [←ht];exact Vy hl hv k5 _ Yao
 have hE5:=hinv _ _ (Step.run_stop rfl (W9 less_round) ht k5)
 (repeat' (first|(apply W2 24;refine StopW.out ?_)|refine Xe ?_|refine Xb ?_|refine Xc ?_|(apply Xn;(exact Ybz);exact rfl)|refine Wm ?_|refine Xy rfl ?_|(apply Xh;exact rfl;(apply Xi;(refine Xq Tryz.func95 rfl hW rfl ?_;rintro _ _ ⟨rfl,rfl⟩)))))
 all_goals (try (exfalso;contradiction))
 refine ⟨?_⟩
 refine X7 (Vi (j:=0) (k:=0) (i:=5) (E:=(U1 K)) s5 rfl rfl rfl rfl rfl rfl (hby:=by show _ * 136≤_;omega)) ?_
 clear hW hacc hinv hq ht
 refine X7 (env':=[(1,ex (.pointer (some ⟨b1,0,none⟩))),(2,ex (.pointer (some ⟨b2,0,none⟩))),(3,ex (.pointer (some ⟨b3,0,none⟩))),(4,ex (.pointer (some ⟨b4,0,none⟩)))]) (loc':=[row b4 29 9 [exT nm,isl eCrit s1,isl eItem s2,isl eItem s3,isl eTie s4,isl (U1 K) s5,isl eI [],isl eI [],exI .i64 0],row b3 65 5 [ex (.slice none 0 0),exI .i64 0,exI .i64 0,exB false,exI .i64 0],row b2 29 9 [exT [],ex (.slice none 0 0),ex (.slice none 0 0),ex (.slice none 0 0),ex (.slice none 0 0),ex (.slice none 0 0),ex (.slice none 0 0),ex (.slice none 0 0),exI .i64 0],row b1 65 5 (Vr l en q5)]) (Xg (by repeat (first|exact Xr|refine Xl rfl ?_)) (List.Sublist.refl _)) ?_
 refine V1 (fun z:List Int×Pst=>([(1,ex (.pointer (some ⟨b1,0,none⟩))),(2,ex (.pointer (some ⟨b2,0,none⟩))),(3,ex (.pointer (some ⟨b3,0,none⟩))),(4,ex (.pointer (some ⟨b4,0,none⟩)))],[row b4 29 9 [exT nm,isl eCrit s1,isl eItem s2,isl eItem s3,isl eTie s4,isl (U1 K) s5,isl eI z.1,isl eI [],exI .i64 0],row b3 65 5 [ex (.slice none 0 0),exI .i64 0,exI .i64 0,exB false,exI .i64 0],row b2 29 9 [exT [],ex (.slice none 0 0),ex (.slice none 0 0),ex (.slice none 0 0),ex (.slice none 0 0),ex (.slice none 0 0),ex (.slice none 0 0),ex (.slice none 0 0),exI .i64 0],row b1 65 5 (Vr l en z.2)])) (fun z=>Step l en prizesP q5 z.1 z.2) ?_ fun z hz=>?_
 · (repeat' (first|refine Xe ?_|refine Xb ?_|refine Xc ?_|(apply Xn;exact Ydf;exact rfl)|refine Xs ?_|(apply Xh;exact rfl;first|(apply Xi;first|(refine Xq Tryz.func95 rfl (Vy hl hv Yaq _ Yao) rfl ?_;rintro _ _ ⟨rfl,rfl⟩)|(refine Xq Tryz.func101 rfl (U3 hl hv Yaq _ Yao) rfl ?_;rintro _ _ ⟨⟨p1,hs,rfl⟩,rfl⟩;have hp1:=hs.ok)|(refine Xq Tryz.func100 rfl (Xdp hl hv Yaq) rfl ?_;rintro _ _ ⟨⟨x1,p1,hs,rfl⟩,rfl⟩;have hp1:=hs.ok)|(refine Xq Tryz.func94 rfl (Ux hl hv Yaq _ Yao) rfl ?_;rintro _ _ ⟨⟨p1,hs,rfl⟩,rfl⟩;have hp1:=hs.ok))|(apply Xt;first|refine Xj (k:=0) (l0:=[]) rfl rfl rfl ?_|refine Xj (k:=3) (l0:=[]) rfl rfl rfl ?_))|(refine Xp rfl (fun hb=>?_) (fun hb=>?_)<;>(repeat (fail))<;>(try (exfalso;fail)))))
   all_goals (refine Wo (Q:=fun _ _ _=>True) (_,_) (by unfold prizesP;repeat' (first|assumption|exact Step.ret Yaq|(apply Step.ifT;assumption)|(apply Step.ifF;assumption)|apply Step.bnd)) (Xg (by repeat (first|exact Xr|refine Xl rfl ?_)) (List.Sublist.refl _)))
 obtain ⟨pz,q6⟩:=z
 have k6:=hz.ok
 simp only at hz k6 ⊢
 (repeat' (first|(apply W2 27;refine StopW.out ?_)|refine Xe ?_))
 refine ⟨?_⟩
 refine V1 (fun z:(List Int×Int)×Pst=>([(1,ex (.pointer (some ⟨b1,0,none⟩))),(2,ex (.pointer (some ⟨b2,0,none⟩))),(3,ex (.pointer (some ⟨b3,0,none⟩))),(4,ex (.pointer (some ⟨b4,0,none⟩)))],[row b4 29 9 [exT nm,isl eCrit s1,isl eItem s2,isl eItem s3,isl eTie s4,isl (U1 K) s5,isl eI pz,isl eI z.1.1,exI .i64 z.1.2],row b3 65 5 [ex (.slice none 0 0),exI .i64 0,exI .i64 0,exB false,exI .i64 0],row b2 29 9 [exT [],ex (.slice none 0 0),ex (.slice none 0 0),ex (.slice none 0 0),ex (.slice none 0 0),ex (.slice none 0 0),ex (.slice none 0 0),ex (.slice none 0 0),exI .i64 0],row b1 65 5 (Vr l en z.2)])) (fun z=>Step l en pointsP q6 z.1 z.2) ?_ fun z hy=>?_
 · (repeat' (first|refine Xe ?_|refine Xb ?_|refine Xc ?_|(apply Xn;exact Ydf;exact rfl)|refine Xs ?_|(apply Xh;exact rfl;first|(apply Xi;first|(refine Xq Tryz.func95 rfl (Vy hl hv Yaq _ Yao) rfl ?_;rintro _ _ ⟨rfl,rfl⟩)|(refine Xq Tryz.func101 rfl (U3 hl hv Yaq _ Yao) rfl ?_;rintro _ _ ⟨⟨p1,hs,rfl⟩,rfl⟩;have hp1:=hs.ok)|(refine Xq Tryz.func100 rfl (Xdp hl hv Yaq) rfl ?_;rintro _ _ ⟨⟨x1,p1,hs,rfl⟩,rfl⟩;have hp1:=hs.ok)|(refine Xq Tryz.func94 rfl (Ux hl hv Yaq _ Yao) rfl ?_;rintro _ _ ⟨⟨p1,hs,rfl⟩,rfl⟩;have hp1:=hs.ok)|(refine Xq Tryz.func102 rfl (Qj hl hv Yaq _ Yao) rfl ?_;rintro _ _ ⟨⟨x1,p1,hs,rfl⟩,rfl⟩;have hp1:=hs.ok))|(apply Xt;first|refine Xj (k:=0) (l0:=[]) rfl rfl rfl ?_|refine Xj (k:=3) (l0:=[]) rfl rfl rfl ?_))|(refine Xp rfl (fun hb=>?_) (fun hb=>?_)<;>(repeat (fail))<;>(try (exfalso;fail)))))
   all_goals (refine Wo (Q:=fun _ _ _=>True) ((_,_),_) (by unfold pointsP;repeat' (first|assumption|exact Step.ret Yaq|(apply Step.ifT;assumption)|(apply Step.ifF;assumption)|apply Step.bnd)) (Xg (by repeat (first|exact Xr|refine Xl rfl ?_)) (List.Sublist.refl _)))
 obtain ⟨⟨pt,bt⟩,q7⟩:=z
 have k7:=hy.ok
 simp only at hy k7 ⊢
 have hn7:=k7.n
 have hF:=Step.fin (en:=en) k7
 by_cases hlt:q7.n<l.length
 · rw [if_pos hlt] at hF
   have hkf:=hF.ok
   have hE:Step l en rulesP p ⟨nm,s1,s2,s3,s4,s5,pz,pt,bt⟩ (q7.fail l en):=Yeg
   (repeat' (first|(apply Wa 32;refine StopW.out ?_)|refine Xe ?_|refine Xb ?_|refine Xc ?_|(apply Xn;(first|(apply V6;exact Ud (k:=3) rfl rfl rfl rfl)|exact Yad|exact Yam|exact Yaj);exact rfl)|(refine Xp rfl (fun hb=>?_) (fun hb=>?_)<;>(repeat (first|replace hb:=Xz hb|replace hb:=X0 hb))<;>(try (exfalso;omega)))))
   all_goals (try (exfalso;first|contradiction|omega))
   refine ⟨?_⟩
   (refine Wt 3 rfl ?_)
   all_goals ((apply Xv 0 rfl Yaa rfl Yaa Yab Xa;(exact Ybg);exact rfl))
   all_goals ((apply Xu 1 Yaa rfl Xa (fun _ _ _=>trivial);apply Tm (H:=fun _=>True);(exact Ya2);exact rfl))
   all_goals ((apply Xu 2;exact Yaa;exact rfl;exact Xa;exact (fun _ _ h=>h);(apply Xi;(refine Xq Tryz.func103 rfl (Uj hl Yaq) rfl ?_;rintro _ _ ⟨rfl,rfl⟩))))
   all_goals ((apply Xu 3;exact Yaa;exact rfl;exact Xa;exact (fun h=>absurd h Yao);(apply Xt;refine Xj (k:=2) (l0:=[]) rfl rfl rfl ?_)))
   all_goals ((apply Xu 4;exact Yaa;exact rfl;exact Xa;exact (fun h=>absurd h Yao);(apply Xt;refine Xj (k:=1) (l0:=[]) rfl rfl rfl ?_)))
   all_goals (refine X9 Yaa ?_)
   all_goals ((repeat' (refine Xw ?_)))
   all_goals (exact ⟨.inr rfl,S8 rfl (.cella (k:=2) rfl rfl rfl rfl inferInstance rfl) (.cella (k:=1) rfl rfl rfl rfl inferInstance rfl) (List.nil_sublist _) ⟨⟨K,_,_,hE,by rfl⟩,rfl⟩⟩)
 · rw [if_neg hlt] at hF
   have hE:Step l en rulesP p ⟨nm,s1,s2,s3,s4,s5,pz,pt,bt⟩ q7:=Yeg
   (repeat' (first|(apply Wa 33;refine StopW.out ?_)|refine Xe ?_|refine Xb ?_|refine Xc ?_|(apply Xn;(first|(apply V6;exact Ud (k:=3) rfl rfl rfl rfl)|exact Yad|exact Yam|exact Yaj);exact rfl)|refine Xs ?_|(refine Xp rfl (fun hb=>?_) (fun hb=>?_)<;>(repeat (first|replace hb:=Xz hb|replace hb:=X0 hb))<;>(try (exfalso;omega)))))
   all_goals (try (exfalso;first|contradiction|omega))
   refine ⟨?_⟩
   (refine Wt 2 rfl ?_)
   all_goals ((apply Xv 0 rfl Yaa rfl Yaa Yab Xa;(exact Ybg);exact rfl))
   all_goals (refine Uw (H2:=Tp []) 1 2 Yaa rfl Xa (fun _ _ _=>trivial) rfl Xa (fun h=>absurd h Yao) ?_ ?_;(apply Tm (H:=fun _=>True);(exact Ya2);exact rfl);(apply Xu 2;exact Yaa;exact rfl;exact Xa;exact (fun h=>absurd h Yao);((apply Xt;refine Xj (k:=2) (l0:=[]) rfl rfl rfl ?_)));rotate_left;((apply Xt;refine Xj (k:=2) (l0:=[]) rfl rfl rfl ?_));(apply Xu 1;exact Yaa;exact rfl;exact Xa;exact (fun _ _ _=>trivial);(apply Tm (H:=fun _=>True);(exact Ya2);exact rfl)))
   all_goals ((apply Xu 3;exact Yaa;exact rfl;exact Xa;exact (fun h=>absurd h Yao);(apply Xt;refine Xj (k:=1) (l0:=[]) rfl rfl rfl ?_)))
   all_goals (refine X9 Yaa ?_)
   all_goals ((repeat' (refine Xw ?_)))
   all_goals (exact ⟨.inr rfl,S8 rfl (.cella (k:=2) rfl rfl rfl rfl inferInstance rfl) (.cella (k:=1) rfl rfl rfl rfl inferInstance rfl) (List.nil_sublist _) ⟨⟨K,_,_,hE,by rfl⟩,rfl⟩⟩)
end Go.Proofs.YthdldeenpgeemaaGreatDoor
namespace Go.Sx
open Go.Lx Go.Fr
theorem Xa6 {l:List TokD} {en:Nat} {x:RulesD} {p1:Pst} (h:Step l en rulesP ⟨0,false,0⟩ x p1):(p1.bad=false→Qr l en=(x,0,0))∧(p1.bad=true→Qr l en=(zeroR,p1.at_,130)):=by
 have hg:=h.good rfl
 unfold Qr
 rw [show l.drop (Pst.mk 0 false 0).n=l from rfl] at hg
 cases hr:rulesP l with
 | ok q=>
   obtain ⟨y,r⟩:=q
   rw [hr] at hg
   exact ⟨fun _=>by rw [hg.1],fun hb=>by rw [hg.2.1] at hb;cases hb⟩
 | error e=>
   rw [hr] at hg
   exact ⟨fun hb=>(by rw [hg.1] at hb;cases hb),fun _=>by rw [hg.2]⟩
end Go.Sx
namespace Go.Proofs.YthdldeenpgeemaaGreatDoor
open Go Go.RowKit Go.Kx Go.Fr Go.Lx Go.Sx
theorem Xgg (s:List UInt8):FnC Tryz.prog 12 [exT s] [] (Xkr (Tl s)):=by
 have hlx:=Xll s
 unfold Xpv at hlx
 by_cases hmx:65536<s.length
 · have h1:Xmo s=([],0,2):=if_pos hmx
   have h2:Tl s=(zeroR,0,2):=if_pos hmx
   rw [h1] at hlx
   rw [h2]
   dsimp only at hlx
   refine X3 Tryz.func12 rfl Tryz.ntmps12 rfl fun w0 F0 out=>?_
   (repeat' (first|refine Xe ?_|refine Xb ?_|refine Xc ?_|(apply Xn;exact Yc9;exact rfl)|refine Xw ?_|refine Xx rfl ?_|(apply Xh;exact rfl;first|(apply Xi;(refine Xq Tryz.func29 rfl hlx rfl ?_;rintro _ _ ⟨rfl,rfl⟩))|(apply Wb;refine X8 ?_;intro _)|(apply Xt;refine Xj (k:=0) (l0:=[]) rfl rfl rfl ?_))))
   all_goals (try (exfalso;first|contradiction|omega))
   exact ⟨.inr rfl,Xbz (loc':=[]) (Xcb rfl (.cella (k:=0) rfl rfl rfl rfl inferInstance rfl) (.tmp rfl) (.tmp rfl) (List.nil_sublist _) ⟨rfl,rfl⟩) (Ims.tup (.cons (Ims.agg zero_im) (.cons (Im.refl _) (.cons (Im.refl _) .nil)))) ⟨⟨1,rfl⟩,rfl⟩⟩
 rcases Xdx s Yan with ⟨l,h0,h1⟩|⟨p,h0,h1⟩
 · have h2:Tl s=Qr l s.length:=by unfold Tl;rw [if_neg hmx,h0]
   rw [h1] at hlx
   rw [h2]
   dsimp only at hlx
   have hcnt:=Xks h0
   have hrd:=Xmd (l:=l) (en:=s.length) (p:=⟨0,false,0⟩) Yan (lex_valid 0 s l h0) ⟨Nat.zero_le _,fun _=>rfl⟩
   generalize hz:Qr l s.length=z
   refine X3 Tryz.func12 rfl Tryz.ntmps12 rfl fun w0 F0 out=>?_
   (repeat' (first|(apply W2 5;refine StopW.out ?_)|refine Xe ?_|refine Xb ?_|refine Xc ?_|(apply Xn;(first|exact Xf rfl|exact Xm rfl|exact Ybb|exact Ybo|exact Yau|exact Yay);exact rfl)|refine Xs ?_|refine Xy rfl ?_|(apply Xh;exact rfl;first|(apply Xi;first|(refine Xq Tryz.func29 rfl hlx rfl ?_;rintro _ _ ⟨rfl,rfl⟩)|(refine Xq Tryz.func30 rfl hrd rfl ?_;rintro _ _ ⟨⟨k,x,p1,hs,rfl⟩,rfl⟩))|(apply Wb;refine X8 ?_;intro _)|(apply Xt;first|refine Xj (k:=0) (l0:=[]) rfl rfl rfl ?_|refine Xj (k:=1) (l0:=[]) rfl rfl rfl ?_))))
   all_goals (try (exfalso;first|contradiction|omega))
   refine ⟨?_⟩
   rename_i b2 b8 b9
   refine X7 (env':=[(2,ex (.pointer (some ⟨b2,0,none⟩))),(3,exI .i64 0),(4,exI .i64 0),(8,ex (.pointer (some ⟨b8,0,none⟩))),(9,ex (.pointer (some ⟨b9,0,none⟩)))]) (loc':=[row b9 65 5 (Vr l s.length p1),row b8 29 9 (Wq k x),row b2 29 9 [exT [],ex (.slice none 0 0),ex (.slice none 0 0),ex (.slice none 0 0),ex (.slice none 0 0),ex (.slice none 0 0),ex (.slice none 0 0),ex (.slice none 0 0),exI .i64 0]]) (Xg (by repeat (first|exact Xr|refine Xl rfl ?_)) (List.Sublist.refl _)) ?_
   (repeat' (first|(apply Wa 6;refine StopW.out ?_)|refine Xe ?_|refine Xb ?_|refine Xc ?_|(apply Xn;(first|exact Xm rfl|(apply V6;first|exact Ud (k:=0) rfl rfl rfl rfl|exact Vk (k:=1) rfl rfl rfl)|exact Yad);exact rfl)|refine Xs ?_|refine Xw ?_|(apply Xh;exact rfl;(apply Xt;refine Xj (k:=2) (l0:=[]) rfl rfl rfl ?_))|(refine Xp rfl (fun hb=>?_) (fun hb=>?_)<;>(repeat (fail))<;>(try (exfalso;fail)))))
   · refine ⟨?_⟩
     obtain rfl:=hz.symm.trans ((Xa6 hs).2 hb)
     (refine Wt 3 rfl ?_)
     all_goals ((apply Xd 0 rfl Yaa rfl Yab Xa;(exact Ybq);exact rfl))
     all_goals ((apply Xd 1 rfl Yaa rfl Yab Xa;(exact Yad);exact rfl))
     all_goals (refine Uw (H2:=Tp []) 2 3 Yaa rfl Xa (fun _ _ _=>trivial) rfl Xa (fun h=>absurd h Yao) ?_ ?_;(apply Tm (H:=fun _=>True);(exact Yai);exact rfl);(apply Xu 3;exact Yaa;exact rfl;exact Xa;exact (fun h=>absurd h Yao);((apply Xt;refine Xj (k:=2) (l0:=[]) rfl rfl rfl ?_)));rotate_left;((apply Xt;refine Xj (k:=2) (l0:=[]) rfl rfl rfl ?_));(apply Xu 2;exact Yaa;exact rfl;exact Xa;exact (fun _ _ _=>trivial);(apply Tm (H:=fun _=>True);(exact Yai);exact rfl)))
     all_goals ((apply Xu 4 Yaa rfl Xa (fun _ _ _=>trivial);apply Tm (H:=fun _=>True);(exact Xm rfl);exact rfl))
     all_goals ((apply Xu 5 Yaa rfl Xa (fun _ _ _=>trivial);apply Tm (H:=fun _=>True);(exact Xm rfl);exact rfl))
     all_goals (refine X9 Yaa ?_)
     all_goals ((repeat' (refine Xw ?_)))
     all_goals (first|exact ⟨.inr rfl,Xbz (loc':=[]) (Xcb rfl (.cella (k:=2) rfl rfl rfl rfl inferInstance rfl) (.tmp rfl) (.tmp rfl) (List.nil_sublist _) ⟨rfl,rfl⟩) (Ims.tup (.cons (Ims.agg zero_im) (.cons (Im.refl _) (.cons (Im.refl _) .nil)))) ⟨⟨1,rfl⟩,rfl⟩⟩|exact ⟨.inr rfl,Xbz (loc':=[]) (Xcb rfl (.cella (k:=0) rfl rfl rfl rfl inferInstance rfl) (.tmp rfl) (.tmp rfl) (List.nil_sublist _) ⟨rfl,rfl⟩) (Ims.tup (.cons (Ims.agg zero_im) (.cons (Im.refl _) (.cons (Im.refl _) .nil)))) ⟨⟨1,rfl⟩,rfl⟩⟩)
   · obtain rfl:=hz.symm.trans ((Xa6 hs).1 hb)
     first|exact ⟨.inr rfl,Xcb rfl (.cella (k:=2) rfl rfl rfl rfl inferInstance rfl) (.tmp rfl) (.tmp rfl) (List.nil_sublist _) ⟨⟨k,rfl⟩,rfl⟩⟩|exact ⟨.inr rfl,Xcb rfl (.cella (k:=0) rfl rfl rfl rfl inferInstance rfl) (.tmp rfl) (.tmp rfl) (List.nil_sublist _) ⟨⟨k,rfl⟩,rfl⟩⟩
 · have h2:Tl s=(zeroR,(p:Int),30):=by unfold Tl;rw [if_neg hmx,h0]
   rw [h1] at hlx
   rw [h2]
   dsimp only at hlx
   refine X3 Tryz.func12 rfl Tryz.ntmps12 rfl fun w0 F0 out=>?_
   (repeat' (first|refine Xe ?_|refine Xb ?_|refine Xc ?_|(apply Xn;exact Yc9;exact rfl)|refine Xw ?_|refine Xx rfl ?_|(apply Xh;exact rfl;first|(apply Xi;(refine Xq Tryz.func29 rfl hlx rfl ?_;rintro _ _ ⟨rfl,rfl⟩))|(apply Wb;refine X8 ?_;intro _)|(apply Xt;refine Xj (k:=0) (l0:=[]) rfl rfl rfl ?_))))
   all_goals (try (exfalso;first|contradiction|omega))
   exact ⟨.inr rfl,Xbz (loc':=[]) (Xcb rfl (.cella (k:=0) rfl rfl rfl rfl inferInstance rfl) (.tmp rfl) (.tmp rfl) (List.nil_sublist _) ⟨rfl,rfl⟩) (Ims.tup (.cons (Ims.agg zero_im) (.cons (Im.refl _) (.cons (Im.refl _) .nil)))) ⟨⟨1,rfl⟩,rfl⟩⟩
end Go.Proofs.YthdldeenpgeemaaGreatDoor
namespace Go.Proofs.YthdldeenpgeemaaGreatDoor
open Go Go.RowKit Go.Kx Go.Fr Go.Lx Go.Sx
theorem Xc8 (s:List UInt8):FnC Tryz.prog 3 [exT s] [Lab] (fun p loc=>p=exB true∧loc=[]):=by
 have hpa:=Ts s
 have hpr:=Xgg s
 generalize Tl s=z at hpa hpr
 obtain ⟨x,a,e⟩:=z
 unfold Xkr at hpa hpr
 dsimp only at hpa hpr
 refine X3 Tryz.func3 rfl Tryz.ntmps3 rfl fun w0 F0 out=>?_
 by_cases hs:s.length≤2000
 · (repeat' (first|refine Xe ?_|refine Xb ?_|refine Xc ?_|(apply Xn;(first|exact Xf rfl|exact Xm rfl|exact Wd (b:=true) rfl (fun _=>rfl) (fun e=>by cases e)|exact Ybb|(apply V6;first|exact Vk (k:=0) rfl rfl rfl|exact Vk (k:=1) rfl rfl rfl)|exact Ybr|exact Yau|exact Yaz);exact rfl)|(apply W0;exact rfl;exact rfl;exact rfl;(first|exact Xf rfl|exact Yar);exact rfl)|refine Xs ?_|refine Xw ?_|refine Xy rfl ?_|(apply Xh;exact rfl;first|(apply Xi;first|(refine Xk (.dup 0 rfl rfl .nil) Tryz.func10 rfl sane13_any rfl ?_;rintro _ _ ⟨rfl,rfl⟩)|(refine Xk (.dup 0 rfl rfl .nil) Tryz.func11 rfl hpa rfl ?_;rintro _ _ ⟨⟨k1,rfl⟩,rfl⟩)|(refine Xq Tryz.func12 rfl hpr rfl ?_;rintro _ _ ⟨⟨k2,rfl⟩,rfl⟩)|(refine Xq Tryz.func13 rfl (Sv _ _ _ _) rfl ?_;rintro _ _ ⟨rfl,rfl⟩))|(apply Wb;refine X8 ?_;intro _)|(apply Xt;refine Xj (k:=0) (l0:=[]) rfl rfl rfl ?_))|(refine Wf rfl rfl (fun hb=>?_) (fun hb=>?_)<;>(repeat (first|replace hb:=Xz hb|replace hb:=X0 hb))<;>(try (exfalso;contradiction)))|(refine Xp rfl (fun hb=>?_) (fun hb=>?_)<;>(repeat (first|replace hb:=Xz hb|replace hb:=X0 hb))<;>(try (exfalso;omega)))))
   all_goals (try (exfalso;first|contradiction|omega))
   all_goals (refine ⟨.inr rfl,Vd rfl (.tmp rfl) (List.nil_sublist _) ⟨congrArg exB ?_,rfl⟩⟩)
   all_goals (first|rfl|(simp;done))
 · (repeat' (first|refine Xe ?_|refine Xb ?_|refine Xc ?_|(apply Xn;(first|exact Xf rfl|exact Xm rfl|exact Ybr|exact Yau|exact Yaz);exact rfl)|refine Xs ?_|refine Xw ?_|refine Xy rfl ?_|(apply Xh;exact rfl;(apply Xi;(refine Xk (.dup 0 rfl rfl .nil) Tryz.func10 rfl sane13_any rfl ?_;rintro _ _ ⟨rfl,rfl⟩)))|(refine Xp rfl (fun hb=>?_) (fun hb=>?_)<;>(repeat (first|replace hb:=Xz hb|replace hb:=X0 hb))<;>(try (exfalso;omega)))))
   all_goals (try (exfalso;first|contradiction|omega))
   all_goals (refine ⟨.inr rfl,Vd rfl (.tmp rfl) (List.nil_sublist _) ⟨congrArg exB ?_,rfl⟩⟩)
   all_goals (first|rfl|(simp;done))
end Go.Proofs.YthdldeenpgeemaaGreatDoor
