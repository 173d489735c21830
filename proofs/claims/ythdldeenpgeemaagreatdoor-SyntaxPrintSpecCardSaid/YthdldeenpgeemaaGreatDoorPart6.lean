/- podiumref03.Lex. -/
import Derived.Test.YthdldeenpgeemaaGreatDoorPart5
import Derived.Test.YthdldeenpgeemaaGreatDoorPart4
import Derived.Test.YthdldeenpgeemaaGreatDoorPart3
set_option maxHeartbeats 4000000
set_option maxRecDepth 100000
namespace Go.Proofs.YthdldeenpgeemaaGreatDoor
open Go Go.RowKit Go.Kx Go.Fr Go.Lx
def Xpv (z:List TokD×Int×Int):SP:=tup [isl eTok z.1,exI .i64 z.2.1,exI .i64 z.2.2]
theorem Xll (s:List UInt8):FnC Tryz.prog 29 [exT s] [] (fun p loc=>p=Xpv (Xmo s)∧loc=[]):=by
 refine X3 Tryz.func29 rfl Tryz.ntmps29 rfl fun w0 F0 out=>?_
 unfold Xmo Xpv
 by_cases hmx:65536<s.length
 · rw [if_pos hmx]
   (repeat' (first|refine Xe ?_|refine Xb ?_|refine Xc ?_|(apply Xn;(first|exact Xf rfl|exact Xm rfl|exact Ybr|exact Yau);exact rfl)|refine Xw ?_|(refine Xp rfl (fun hb=>?_) (fun hb=>?_)<;>(repeat (first|replace hb:=Xz hb|replace hb:=X0 hb))<;>(try (exfalso;omega)))))
   all_goals (try (exfalso;omega))
   refine ⟨.inr rfl,Xbz (loc':=[]) (Xcb rfl (.tmp rfl) (.tmp rfl) (.tmp rfl) (List.nil_sublist _) ⟨rfl,rfl⟩) ?_ ⟨rfl,rfl⟩⟩
   exact Ims.tup (.cons Im.nil (.cons (Im.refl _) (.cons (Im.refl _) .nil)))
 rw [if_neg hmx]
 have hmax:s.length≤65536:=by omega
 (repeat' (first|refine Xe ?_|refine Xb ?_|refine Xc ?_|(apply Xn;(first|exact Xf rfl|exact Xm rfl|exact Ybr|exact Yau);exact rfl)|refine Xo ?_|refine Xs ?_|(apply Xh;exact rfl;(apply X5;(refine Ub rfl ?_);intro _))|(refine Xp rfl (fun hb=>?_) (fun hb=>?_)<;>(repeat (first|replace hb:=Xz hb|replace hb:=X0 hb))<;>(try (exfalso;omega)))))
 all_goals (try (exfalso;omega))
 rename_i b5
 refine Ws (fun x:Nat×Value×List TokD=>([(0,exT s),(5,ex x.2.1),(6,exI .i64 (x.1:Int))],[vec x.2.1 40 4 x.2.2.length (x.2.2.flatMap Qa)])) (fun x=>x.1≤s.length∧x.2.2.length≤x.1∧T7 0 s=(T7 x.1 (s.drop x.1)).map (x.2.2++ ·)) (fun x=>s.length-x.1) (0,.slice (some ⟨b5,0,none⟩) 0 0,[]) ?_ ⟨Nat.zero_le _,Nat.le_refl _,?_⟩ fun x hx=>?_
 · refine Vu (k:=0) (sz:=4) (n:=0) (c:=0) rfl rfl rfl Yao Yao ?_
   exact Xg (by repeat (first|exact Xr|refine Xl rfl ?_)) (List.Sublist.refl _)
 · show T7 0 s=(T7 0 s).map ([]++ ·)
   cases T7 0 s<;>rfl
 obtain ⟨i,v,acc⟩:=x
 obtain ⟨hi,hacc,hinv⟩:=hx
 simp only at hi hacc hinv ⊢
 by_cases hlt:i<s.length
 · have hsp:=Xgr s[i]
   have hle:=Q7 s[i]
   have hfi:=Sr s[i]
   have hsg:=Xde s[i]
   rw [Xdd] at hle
   rw [Rn] at hfi
   have hd:s.drop i=s[i]::s.drop (i+1):=List.drop_eq_getElem_cons hlt
   have hst:=Xey s[i] (s.drop (i+1))
   generalize hr0:Lx.step (s[i]::s.drop (i+1))=r at hst
   cases hst with
   | space h=>
     rw [Se hlt hr0] at hinv
     rw [h] at hsp
     (repeat' (first|refine Xe ?_|refine Xb ?_|refine Xc ?_|(apply Xn;(first|exact Xf rfl|exact Xm rfl|exact Ybc|exact Yau|exact Ya5);exact rfl)|refine Xo ?_|refine Xs ?_|refine Wm ?_|refine Xx rfl ?_|(apply Xh;exact rfl;(apply Xi;(refine Xq Tryz.func88 rfl hsp rfl ?_;rintro _ _ ⟨rfl,rfl⟩)))|(refine Xp rfl (fun hb=>?_) (fun hb=>?_)<;>(repeat (first|replace hb:=Xz hb|replace hb:=X0 hb))<;>(try (exfalso;omega)))))
     all_goals (try (exfalso;first|contradiction|omega))
     exact ⟨(i+1,v,acc),⟨by show i+1≤_;omega,by show acc.length≤i+1;omega,hinv⟩,by show s.length-(i+1)<s.length-i;omega,Xg (by repeat (first|exact Xr|refine Xl rfl ?_)) (List.Sublist.refl _)⟩
   | comment h h2=>
     have hi1:i+1<s.length:=Classical.byContradiction fun e=>by
       rw [List.drop_eq_nil_of_le Yan] at h2;cases h2
     have hn2:(s[i+1].toNat:Int)=47:=by
       rw [List.drop_eq_getElem_cons hi1] at h2
       rw [show s[i+1]=47 from Option.some.inj h2];rfl
     have hn:(s[i].toNat:Int)=47:=by rw [h];rfl
     rw [show spaceB s[i]=false by rw [h];decide] at hsp
     have hrun:=Xcy lineB s i hi
     rw [Se hlt hr0,←hd] at hinv
     have hL1:1≤((s.drop i).takeWhile lineB).length:=by rw [hd];exact S1 (by rw [h];decide)
     generalize ((s.drop i).takeWhile lineB).length=L at hrun hinv hL1
     have hLle:=hrun.le
     (repeat' (first|refine Xe ?_|refine Xb ?_|refine Xc ?_|(apply Xn;(first|exact Xf rfl|exact Xm rfl|exact Wd (b:=true) rfl (fun _=>rfl) (fun e=>by cases e)|exact Ycv|exact Yau|exact Ya5);exact rfl)|(apply W0;exact rfl;exact rfl;exact rfl;(first|exact Xf rfl|exact Yb2|exact Yau|exact Ya5);exact rfl)|refine Xo ?_|refine Xs ?_|refine Xy rfl ?_|(apply Xh;exact rfl;(apply Xi;(refine Xq Tryz.func88 rfl hsp rfl ?_;rintro _ _ ⟨rfl,rfl⟩)))|(refine Wf rfl rfl (fun hb=>?_) (fun hb=>?_)<;>(repeat (first|replace hb:=Xz hb|replace hb:=X0 hb))<;>(try (exfalso;first|contradiction|omega)))|(refine Xp rfl (fun hb=>?_) (fun hb=>?_)<;>(repeat (first|replace hb:=Xz hb|replace hb:=X0 hb))<;>(try (exfalso;first|contradiction|omega)))))
     all_goals (try (exfalso;first|contradiction|omega))
     refine Ws (fun j:Nat=>([(0,exT s),(5,ex v),(6,exI .i64 (j:Int)),(7,exI .i64 (i:Int))],[vec v 40 4 acc.length (acc.flatMap Qa)])) (fun j=>i≤j∧j≤i+L) (fun j=>i+L-j) i ?_ ⟨Nat.le_refl _,by omega⟩ fun j hj=>?_
     · exact Xg (by repeat (first|exact Xr|refine Xl rfl ?_)) (List.Sublist.refl _)
     obtain ⟨hj1,hj2⟩:=hj
     by_cases hlj:j<i+L
     · have hjs:j<s.length:=by omega
       have hpj:=hrun.in_ j hjs hj1 hlj
       have hne: ¬(s[j].toNat:Int)=10:=fun e=>by
         have e2:s[j]=10:=UInt8.toNat_inj.1 (show s[j].toNat=10 by omega)
         rw [e2] at hpj;exact absurd hpj Yao
       (repeat' (first|refine Xe ?_|refine Xb ?_|refine Xc ?_|(apply Xn;exact Yb8;exact rfl)|(apply W0;exact rfl;exact rfl;exact rfl;(first|exact Xf rfl|exact Ybo|exact Ya5);exact rfl)|refine Xo ?_|refine Xs ?_|(refine Wf rfl rfl (fun hb=>?_) (fun hb=>?_)<;>(repeat (first|replace hb:=Xz hb|replace hb:=X0 hb))<;>(try (exfalso;omega)))|(refine Xp rfl (fun hb=>?_) (fun hb=>?_)<;>(repeat (first|replace hb:=Xz hb|replace hb:=X0 hb|replace hb:=W5 hb|replace hb:=W6 hb))<;>(try (exfalso;contradiction)))))
       all_goals (try (exfalso;first|contradiction|omega))
       exact ⟨j+1,⟨by omega,by omega⟩,by omega,Xg (by repeat (first|exact Xr|refine Xl rfl ?_)) (List.Sublist.refl _)⟩
     have hje:j=i+L:=by omega
     subst hje
     by_cases hend:i+L<s.length
     · have hpj:=hrun.out_ hend
       have heq:(s[i+L].toNat:Int)=10:=by
         have e2:s[i+L]=10:=Classical.byContradiction fun e=>by rw [Xl3 e] at hpj;cases hpj
         rw [e2];rfl
       (repeat' (first|refine Xe ?_|refine Xb ?_|refine Xc ?_|(apply Xn;(first|exact Xf rfl|exact Wd (b:=true) rfl (fun _=>rfl) (fun e=>by cases e)|exact Yam|exact Yau);exact rfl)|(apply W0;exact rfl;exact rfl;exact rfl;(first|exact Xf rfl|exact Ybo|exact Ya5);exact rfl)|refine Wm ?_|(refine Wf rfl rfl (fun hb=>?_) (fun hb=>?_)<;>(repeat (first|replace hb:=Xz hb|replace hb:=X0 hb))<;>(try (exfalso;omega)))|(refine Xp rfl (fun hb=>?_) (fun hb=>?_)<;>(repeat (first|replace hb:=Xz hb|replace hb:=X0 hb|replace hb:=W5 hb|replace hb:=W6 hb))<;>(try (exfalso;contradiction)))))
       all_goals (try (exfalso;first|contradiction|omega))
       exact ⟨(i+L,v,acc),⟨by show i+L≤_;omega,by show acc.length≤i+L;omega,hinv⟩,by show s.length-(i+L)<s.length-i;omega,Xg (by repeat (first|exact Xr|refine Xl rfl ?_)) (List.Sublist.refl _)⟩
     · skip
       (repeat' (first|refine Xe ?_|refine Xb ?_|refine Xc ?_|(apply Xn;(first|exact Xf rfl|exact Wd (b:=false) rfl (fun e=>by cases e) (fun _=>rfl)|exact Yam|exact Yau);exact rfl)|(refine Wv rfl rfl rfl rfl rfl ?_)|refine Wm ?_|refine Xy rfl ?_|(refine Wf rfl rfl (fun hb=>?_) (fun hb=>?_)<;>(repeat (first|replace hb:=Xz hb|replace hb:=X0 hb))<;>(try (exfalso;omega)))))
       all_goals (try (exfalso;first|contradiction|omega))
       exact ⟨(i+L,v,acc),⟨by show i+L≤_;omega,by show acc.length≤i+L;omega,hinv⟩,by show s.length-(i+L)<s.length-i;omega,Xg (by repeat (first|exact Xr|refine Xl rfl ?_)) (List.Sublist.refl _)⟩
   | name h h2=>
     obtain ⟨c1,c2,c3,c4,c5,c6⟩:=(Uc s[i]).1 h
     rw [c1] at hsp
     have hne47: ¬(s[i].toNat:Int)=47:=fun e=>c4 (UInt8.toNat_inj.1 (show s[i].toNat=47 by omega))
     rw [h] at hle
     have hrun:=Xcy partB s i hi
     have hnm:=Xbj ((s.take (i+((s.drop i).takeWhile partB).length)).drop i)
     rw [Xb3,hrun.sub,hd,Xca h,decide_eq_true h2,←hd,←hrun.sub] at hnm
     rw [Ti hlt hr0,Xbm,←hd] at hinv
     have hL1:1≤((s.drop i).takeWhile partB).length:=by rw [hd];exact S1 (Uh h)
     generalize ((s.drop i).takeWhile partB).length=L at hrun hinv hL1 hnm
     rw [←hrun.sub] at hinv
     have hLle:=hrun.le
     (repeat' (first|refine Xe ?_|refine Xb ?_|refine Xc ?_|(apply Xn;exact Yb4;exact rfl)|(refine Wv rfl rfl rfl rfl rfl ?_)|refine Xo ?_|refine Xs ?_|refine Xx rfl ?_|refine Xy rfl ?_|(apply Xh;exact rfl;(apply Xi;first|(refine Xq Tryz.func88 rfl hsp rfl ?_;rintro _ _ ⟨rfl,rfl⟩)|(refine Xq Tryz.func89 rfl hle rfl ?_;rintro _ _ ⟨rfl,rfl⟩)))|(refine Wf rfl rfl (fun hb=>?_) (fun hb=>?_)<;>(repeat (first|replace hb:=Xz hb|replace hb:=X0 hb))<;>(try (exfalso;contradiction)))|(refine Xp rfl (fun hb=>?_) (fun hb=>?_)<;>(repeat (first|replace hb:=Xz hb|replace hb:=X0 hb))<;>(try (exfalso;omega)))))
     all_goals (try (exfalso;first|contradiction|omega))
     refine Ws (fun j:Nat=>([(0,exT s),(5,ex v),(6,exI .i64 (j:Int)),(7,exI .i64 (i:Int))],[vec v 40 4 acc.length (acc.flatMap Qa)])) (fun j=>i≤j∧j≤i+L) (fun j=>i+L-j) i ?_ ⟨Nat.le_refl _,by omega⟩ fun j hj=>?_
     · exact Xg (by repeat (first|exact Xr|refine Xl rfl ?_)) (List.Sublist.refl _)
     obtain ⟨hj1,hj2⟩:=hj
     by_cases hlj:j<i+L
     · have hjs:j<s.length:=by omega
       have hpj:=hrun.in_ j hjs hj1 hlj
       have hpj2:=Q8 s[j]
       rw [Xat,hpj] at hpj2
       (repeat' (first|refine Xe ?_|refine Xb ?_|refine Xc ?_|(apply Xn;exact Yb8;exact rfl)|(apply W0;exact rfl;exact rfl;exact rfl;exact Ydi;exact rfl)|refine Xo ?_|refine Xs ?_|refine Xx rfl ?_|(apply Vm;exact rfl;exact rfl;exact rfl;exact rfl;(apply Xi;(refine Xq Tryz.func90 rfl hpj2 rfl ?_;rintro _ _ ⟨rfl,rfl⟩)))|(refine Wf rfl rfl (fun hb=>?_) (fun hb=>?_)<;>(repeat (first|replace hb:=Xz hb|replace hb:=X0 hb))<;>(try (exfalso;omega)))))
       all_goals (try (exfalso;first|contradiction|omega))
       exact ⟨j+1,⟨by omega,by omega⟩,by omega,Xg (by repeat (first|exact Xr|refine Xl rfl ?_)) (List.Sublist.refl _)⟩
     have hje:j=i+L:=by omega
     subst hje
     by_cases hend:i+L<s.length
     · have hpj:=hrun.out_ hend
       have hpj2:=Q8 s[i+L]
       rw [Xat,hpj] at hpj2
       (repeat' (first|(apply Xh;exact rfl;apply Ve;refine Vb (k:=1) (l0:=[]) rfl rfl (by exact Rm (k:=0) (qs:=Qa ⟨1,(s.take (i+L)).drop i,0,i⟩) rfl rfl rfl) rfl ?_;intro _)|refine Xe ?_|refine Xb ?_|refine Xc ?_|(apply Xn;(first|exact Xf rfl|exact Xm rfl|exact Wd (b:=true) rfl (fun _=>rfl) (fun e=>by cases e)|exact Yam|exact Ycc|exact Yau|exact Yaz|exact Yay);exact rfl)|(apply W0;exact rfl;exact rfl;exact rfl;exact Ydi;exact rfl)|refine Xs ?_|refine Wm ?_|refine Xy rfl ?_|(apply Xh;exact rfl;first|(apply Xi;(refine Xq Tryz.func47 rfl hnm rfl ?_;rintro _ _ ⟨rfl,rfl⟩))|(apply X5;(refine X6 rfl rfl ?_);intro _))|(apply Vm;exact rfl;exact rfl;exact rfl;exact rfl;(apply Xi;(refine Xq Tryz.func90 rfl hpj2 rfl ?_;rintro _ _ ⟨rfl,rfl⟩)))|(refine Wf rfl rfl (fun hb=>?_) (fun hb=>?_)<;>(repeat (first|replace hb:=Xz hb|replace hb:=X0 hb))<;>(try (exfalso;omega)))))
       all_goals (try (exfalso;first|contradiction|omega))
       rename_i v2
       refine ⟨(i+L,v2,acc++[⟨1,(s.take (i+L)).drop i,0,i⟩]),⟨by show i+L≤_;omega,by show (acc++_).length≤i+L;simp;omega,hinv⟩,by show s.length-(i+L)<s.length-i;omega,?_⟩
       simp only [List.length_append,List.flatMap_append,List.length_cons,List.length_nil,List.flatMap_cons,List.flatMap_nil,List.append_nil]
       exact Xg (by repeat (first|exact Xr|refine Xl rfl ?_)) (.cons _ (.refl _))
     · skip
       (repeat' (first|(apply Xh;exact rfl;apply Ve;refine Vb (k:=1) (l0:=[]) rfl rfl (by exact Rm (k:=0) (qs:=Qa ⟨1,(s.take (i+L)).drop i,0,i⟩) rfl rfl rfl) rfl ?_;intro _)|refine Xe ?_|refine Xb ?_|refine Xc ?_|(apply Xn;(first|exact Xf rfl|exact Xm rfl|exact Wd (b:=false) rfl (fun e=>by cases e) (fun _=>rfl)|exact Yam|exact Ycc|exact Yau|exact Yaz|exact Yay);exact rfl)|(refine Wv rfl rfl rfl rfl rfl ?_)|refine Xs ?_|refine Wm ?_|refine Xy rfl ?_|(apply Xh;exact rfl;first|(apply Xi;(refine Xq Tryz.func47 rfl hnm rfl ?_;rintro _ _ ⟨rfl,rfl⟩))|(apply X5;(refine X6 rfl rfl ?_);intro _))|(refine Wf rfl rfl (fun hb=>?_) (fun hb=>?_)<;>(repeat (first|replace hb:=Xz hb|replace hb:=X0 hb))<;>(try (exfalso;omega)))))
       all_goals (try (exfalso;first|contradiction|omega))
       rename_i v2
       refine ⟨(i+L,v2,acc++[⟨1,(s.take (i+L)).drop i,0,i⟩]),⟨by show i+L≤_;omega,by show (acc++_).length≤i+L;simp;omega,hinv⟩,by show s.length-(i+L)<s.length-i;omega,?_⟩
       simp only [List.length_append,List.flatMap_append,List.length_cons,List.length_nil,List.flatMap_cons,List.flatMap_nil,List.append_nil]
       exact Xg (by repeat (first|exact Xr|refine Xl rfl ?_)) (.cons _ (.refl _))
   | num h h2=>
     obtain ⟨c1,c2,c3,c4,c5,c6⟩:=(Uc s[i]).2.1 h
     rw [c1] at hsp
     have hne47: ¬(s[i].toNat:Int)=47:=fun e=>c4 (UInt8.toNat_inj.1 (show s[i].toNat=47 by omega))
     rw [c2] at hle
     rw [h] at hfi
     have hrun:=Xcy digitB s i hi
     have hnu:=Xbp ((s.take (i+((s.drop i).takeWhile digitB).length)).drop i) (by rw [hrun.sub];exact Xa4) (by
       rw [hrun.sub,hd];intro e
       have:=S1 (s:=s.drop (i+1)) h
       rw [e] at this;simp at this) (by rw [hrun.sub];have:=Qc (p:=digitB) (s.drop i);rw [List.length_drop] at this;omega)
     rw [hrun.sub,hd,h2,Xns h2,←hd,←hrun.sub] at hnu
     rw [Ti hlt hr0,Xbm,←hd] at hinv
     have hL1:1≤((s.drop i).takeWhile digitB).length:=by rw [hd];exact S1 h
     generalize ((s.drop i).takeWhile digitB).length=L at hrun hinv hL1 hnu
     rw [←hrun.sub] at hinv
     have hLle:=hrun.le
     (repeat' (first|refine Xe ?_|refine Xb ?_|refine Xc ?_|(apply Xn;exact Yb4;exact rfl)|(refine Wv rfl rfl rfl rfl rfl ?_)|refine Xo ?_|refine Xs ?_|refine Xx rfl ?_|refine Xy rfl ?_|(apply Xh;exact rfl;(apply Xi;first|(refine Xq Tryz.func88 rfl hsp rfl ?_;rintro _ _ ⟨rfl,rfl⟩)|(refine Xq Tryz.func89 rfl hle rfl ?_;rintro _ _ ⟨rfl,rfl⟩)|(refine Xq Tryz.func91 rfl hfi rfl ?_;rintro _ _ ⟨rfl,rfl⟩)))|(refine Wf rfl rfl (fun hb=>?_) (fun hb=>?_)<;>(repeat (first|replace hb:=Xz hb|replace hb:=X0 hb))<;>(try (exfalso;contradiction)))|(refine Xp rfl (fun hb=>?_) (fun hb=>?_)<;>(repeat (first|replace hb:=Xz hb|replace hb:=X0 hb))<;>(try (exfalso;omega)))))
     all_goals (try (exfalso;first|contradiction|omega))
     refine Ws (fun j:Nat=>([(0,exT s),(5,ex v),(6,exI .i64 (j:Int)),(7,exI .i64 (i:Int))],[vec v 40 4 acc.length (acc.flatMap Qa)])) (fun j=>i≤j∧j≤i+L) (fun j=>i+L-j) i ?_ ⟨Nat.le_refl _,by omega⟩ fun j hj=>?_
     · exact Xg (by repeat (first|exact Xr|refine Xl rfl ?_)) (List.Sublist.refl _)
     obtain ⟨hj1,hj2⟩:=hj
     by_cases hlj:j<i+L
     · have hjs:j<s.length:=by omega
       have hpj:=hrun.in_ j hjs hj1 hlj
       have hfj:=Sr s[j]
       rw [Rn,hpj] at hfj
       (repeat' (first|refine Xe ?_|refine Xb ?_|refine Xc ?_|(apply Xn;exact Yb8;exact rfl)|(apply W0;exact rfl;exact rfl;exact rfl;exact Ydi;exact rfl)|refine Xo ?_|refine Xs ?_|refine Xx rfl ?_|(apply Vm;exact rfl;exact rfl;exact rfl;exact rfl;(apply Xi;(refine Xq Tryz.func91 rfl hfj rfl ?_;rintro _ _ ⟨rfl,rfl⟩)))|(refine Wf rfl rfl (fun hb=>?_) (fun hb=>?_)<;>(repeat (first|replace hb:=Xz hb|replace hb:=X0 hb))<;>(try (exfalso;omega)))))
       all_goals (try (exfalso;first|contradiction|omega))
       exact ⟨j+1,⟨by omega,by omega⟩,by omega,Xg (by repeat (first|exact Xr|refine Xl rfl ?_)) (List.Sublist.refl _)⟩
     have hje:j=i+L:=by omega
     subst hje
     by_cases hend:i+L<s.length
     · have hpj:=hrun.out_ hend
       have hfj:=Sr s[i+L]
       rw [Rn,hpj] at hfj
       (repeat' (first|(apply Xh;exact rfl;apply Ve;refine Vb (k:=1) (l0:=[]) rfl rfl Ye4 rfl ?_;intro _)|refine Xe ?_|refine Xb ?_|refine Xc ?_|(apply Xn;(first|exact Xf rfl|exact Xm rfl|exact Wd (b:=true) rfl (fun _=>rfl) (fun e=>by cases e)|exact Ybb|exact Yam|exact Ycc|exact Yau|exact Yaz|exact Yay);exact rfl)|(apply W0;exact rfl;exact rfl;exact rfl;exact Ydi;exact rfl)|refine Xs ?_|refine Wm ?_|refine Xy rfl ?_|(apply Xh;exact rfl;first|(apply Xi;(refine Xq Tryz.func92 rfl hnu rfl ?_;rintro _ _ ⟨rfl,rfl⟩))|(apply X5;(refine X6 rfl rfl ?_);intro _))|(apply Vm;exact rfl;exact rfl;exact rfl;exact rfl;(apply Xi;(refine Xq Tryz.func91 rfl hfj rfl ?_;rintro _ _ ⟨rfl,rfl⟩)))|(refine Wf rfl rfl (fun hb=>?_) (fun hb=>?_)<;>(repeat (first|replace hb:=Xz hb|replace hb:=X0 hb))<;>(try (exfalso;omega)))))
       all_goals (try (exfalso;first|contradiction|omega))
       rename_i v2
       refine ⟨(i+L,v2,acc++[⟨2,[],(S7 ((s.take (i+L)).drop i):Nat),i⟩]),⟨by show i+L≤_;omega,by show (acc++_).length≤i+L;simp;omega,hinv⟩,by show s.length-(i+L)<s.length-i;omega,?_⟩
       simp only [List.length_append,List.flatMap_append,List.length_cons,List.length_nil,List.flatMap_cons,List.flatMap_nil,List.append_nil]
       exact Xg (by repeat (first|exact Xr|refine Xl rfl ?_)) (.cons _ (.refl _))
     · skip
       (repeat' (first|(apply Xh;exact rfl;apply Ve;refine Vb (k:=1) (l0:=[]) rfl rfl Ye4 rfl ?_;intro _)|refine Xe ?_|refine Xb ?_|refine Xc ?_|(apply Xn;(first|exact Xf rfl|exact Xm rfl|exact Wd (b:=false) rfl (fun e=>by cases e) (fun _=>rfl)|exact Ybb|exact Yam|exact Ycc|exact Yau|exact Yaz|exact Yay);exact rfl)|(refine Wv rfl rfl rfl rfl rfl ?_)|refine Xs ?_|refine Wm ?_|refine Xy rfl ?_|(apply Xh;exact rfl;first|(apply Xi;(refine Xq Tryz.func92 rfl hnu rfl ?_;rintro _ _ ⟨rfl,rfl⟩))|(apply X5;(refine X6 rfl rfl ?_);intro _))|(refine Wf rfl rfl (fun hb=>?_) (fun hb=>?_)<;>(repeat (first|replace hb:=Xz hb|replace hb:=X0 hb))<;>(try (exfalso;omega)))))
       all_goals (try (exfalso;first|contradiction|omega))
       rename_i v2
       refine ⟨(i+L,v2,acc++[⟨2,[],(S7 ((s.take (i+L)).drop i):Nat),i⟩]),⟨by show i+L≤_;omega,by show (acc++_).length≤i+L;simp;omega,hinv⟩,by show s.length-(i+L)<s.length-i;omega,?_⟩
       simp only [List.length_append,List.flatMap_append,List.length_cons,List.length_nil,List.flatMap_cons,List.flatMap_nil,List.append_nil]
       exact Xg (by repeat (first|exact Xr|refine Xl rfl ?_)) (.cons _ (.refl _))
   | sign h h2=>
     obtain ⟨c1,c2,c3,c4,c5⟩:=(Uc s[i]).2.2.1 h
     rw [c1] at hsp
     rw [c2] at hle
     rw [c3] at hfi
     rw [h] at hsg
     have hsl:(s.take (i+1)).drop i=[s[i]]:=by
       rw [List.take_succ_eq_append_getElem hlt,List.drop_append_of_le_length (by rw [List.length_take];omega),List.drop_eq_nil_of_le (by rw [List.length_take];omega)];rfl
     rw [Ti hlt hr0,Xbm,←hsl] at hinv
     have hn47:(s[i].toNat:Int)=47→ ∀(hi1:i+1<s.length),¬(s[i+1].toNat:Int)=47:=fun e hi1 e2=>by
       refine h2 (UInt8.toNat_inj.1 (show s[i].toNat=47 by omega)) ?_
       rw [List.drop_eq_getElem_cons hi1]
       exact congrArg some (UInt8.toNat_inj.1 (show s[i+1].toNat=47 by omega))
     by_cases he:(s[i].toNat:Int)=47
     · by_cases hi1:i+1<s.length
       · have hn2:=hn47 he hi1
         (repeat' (first|(apply Xh;exact rfl;apply Ve;refine Vb (k:=1) (l0:=[]) rfl rfl Ydt rfl ?_;intro _)|refine Xe ?_|refine Xb ?_|refine Xc ?_|(apply Xn;(first|exact Xf rfl|exact Xm rfl|exact Wd (b:=true) rfl (fun _=>rfl) (fun e=>by cases e)|exact Yb2|exact Ycc|exact Yau|exact Yaz|exact Yay|exact Ya5);exact rfl)|(apply W0;exact rfl;exact rfl;exact rfl;(first|exact Xf rfl|exact Yb2|exact Yau|exact Ya5);exact rfl)|refine Xo ?_|refine Xs ?_|refine Xy rfl ?_|(apply Xh;exact rfl;first|(apply Xi;first|(refine Xq Tryz.func88 rfl hsp rfl ?_;rintro _ _ ⟨rfl,rfl⟩)|(refine Xq Tryz.func89 rfl hle rfl ?_;rintro _ _ ⟨rfl,rfl⟩)|(refine Xq Tryz.func91 rfl hfi rfl ?_;rintro _ _ ⟨rfl,rfl⟩)|(refine Xq Tryz.func48 rfl hsg rfl ?_;rintro _ _ ⟨rfl,rfl⟩))|(apply X5;(refine X6 rfl rfl ?_);intro _))|(refine Wf rfl rfl (fun hb=>?_) (fun hb=>?_)<;>(repeat (first|replace hb:=Xz hb|replace hb:=X0 hb))<;>(try (exfalso;first|contradiction|omega)))|(refine Xp rfl (fun hb=>?_) (fun hb=>?_)<;>(repeat (first|replace hb:=Xz hb|replace hb:=X0 hb))<;>(try (exfalso;first|contradiction|omega)))))
         all_goals (try (exfalso;first|contradiction|omega))
         all_goals (rename_i v2;refine ⟨(i+1,v2,acc++[⟨3,(s.take (i+1)).drop i,0,i⟩]),⟨by show i+1≤_;omega,by show (acc++_).length≤i+1;simp;omega,hinv⟩,by show s.length-(i+1)<s.length-i;omega,?_⟩)
         all_goals (simp only [List.length_append,List.flatMap_append,List.length_cons,List.length_nil,List.flatMap_cons,List.flatMap_nil,List.append_nil])
         all_goals exact Xg (by repeat (first|exact Xr|refine Xl rfl ?_)) (.cons _ (.refl _))
       · (repeat' (first|(apply Xh;exact rfl;apply Ve;refine Vb (k:=1) (l0:=[]) rfl rfl Ydt rfl ?_;intro _)|refine Xe ?_|refine Xb ?_|refine Xc ?_|(apply Xn;(first|exact Xf rfl|exact Xm rfl|exact Wd (b:=true) rfl (fun _=>rfl) (fun e=>by cases e)|exact Wd (b:=false) rfl (fun e=>by cases e) (fun _=>rfl)|exact Yb2|exact Ycc|exact Yau|exact Yaz|exact Yay|exact Ya5);exact rfl)|(refine Wv rfl rfl rfl rfl rfl ?_)|(apply W0;exact rfl;exact rfl;exact rfl;(first|exact Xf rfl|exact Ybc|exact Yau);exact rfl)|refine Xo ?_|refine Xs ?_|refine Xy rfl ?_|(apply Xh;exact rfl;first|(apply Xi;first|(refine Xq Tryz.func88 rfl hsp rfl ?_;rintro _ _ ⟨rfl,rfl⟩)|(refine Xq Tryz.func89 rfl hle rfl ?_;rintro _ _ ⟨rfl,rfl⟩)|(refine Xq Tryz.func91 rfl hfi rfl ?_;rintro _ _ ⟨rfl,rfl⟩)|(refine Xq Tryz.func48 rfl hsg rfl ?_;rintro _ _ ⟨rfl,rfl⟩))|(apply X5;(refine X6 rfl rfl ?_);intro _))|(refine Wf rfl rfl (fun hb=>?_) (fun hb=>?_)<;>(repeat (first|replace hb:=Xz hb|replace hb:=X0 hb))<;>(try (exfalso;first|contradiction|omega)))|(refine Xp rfl (fun hb=>?_) (fun hb=>?_)<;>(repeat (first|replace hb:=Xz hb|replace hb:=X0 hb))<;>(try (exfalso;omega)))))
         all_goals (try (exfalso;first|contradiction|omega))
         all_goals (rename_i v2;refine ⟨(i+1,v2,acc++[⟨3,(s.take (i+1)).drop i,0,i⟩]),⟨by show i+1≤_;omega,by show (acc++_).length≤i+1;simp;omega,hinv⟩,by show s.length-(i+1)<s.length-i;omega,?_⟩)
         all_goals (simp only [List.length_append,List.flatMap_append,List.length_cons,List.length_nil,List.flatMap_cons,List.flatMap_nil,List.append_nil])
         all_goals exact Xg (by repeat (first|exact Xr|refine Xl rfl ?_)) (.cons _ (.refl _))
     · (repeat' (first|(apply Xh;exact rfl;apply Ve;refine Vb (k:=1) (l0:=[]) rfl rfl Ydt rfl ?_;intro _)|refine Xe ?_|refine Xb ?_|refine Xc ?_|(apply Xn;(first|exact Xf rfl|exact Xm rfl|exact Wd (b:=false) rfl (fun e=>by cases e) (fun _=>rfl)|exact Yb2|exact Ycc|exact Yau|exact Yaz|exact Yay|exact Ya5);exact rfl)|(refine Wv rfl rfl rfl rfl rfl ?_)|refine Xo ?_|refine Xs ?_|refine Xy rfl ?_|(apply Xh;exact rfl;first|(apply Xi;first|(refine Xq Tryz.func88 rfl hsp rfl ?_;rintro _ _ ⟨rfl,rfl⟩)|(refine Xq Tryz.func89 rfl hle rfl ?_;rintro _ _ ⟨rfl,rfl⟩)|(refine Xq Tryz.func91 rfl hfi rfl ?_;rintro _ _ ⟨rfl,rfl⟩)|(refine Xq Tryz.func48 rfl hsg rfl ?_;rintro _ _ ⟨rfl,rfl⟩))|(apply X5;(refine X6 rfl rfl ?_);intro _))|(refine Wf rfl rfl (fun hb=>?_) (fun hb=>?_)<;>(repeat (first|replace hb:=Xz hb|replace hb:=X0 hb))<;>(try (exfalso;contradiction)))|(refine Xp rfl (fun hb=>?_) (fun hb=>?_)<;>(repeat (first|replace hb:=Xz hb|replace hb:=X0 hb))<;>(try (exfalso;omega)))))
       all_goals (try (exfalso;first|contradiction|omega))
       all_goals (rename_i v2;refine ⟨(i+1,v2,acc++[⟨3,(s.take (i+1)).drop i,0,i⟩]),⟨by show i+1≤_;omega,by show (acc++_).length≤i+1;simp;omega,hinv⟩,by show s.length-(i+1)<s.length-i;omega,?_⟩)
       all_goals (simp only [List.length_append,List.flatMap_append,List.length_cons,List.length_nil,List.flatMap_cons,List.flatMap_nil,List.append_nil])
       all_goals exact Xg (by repeat (first|exact Xr|refine Xl rfl ?_)) (.cons _ (.refl _))
   | badName h h2=>
     obtain ⟨c1,c2,c3,c4,c5,c6⟩:=(Uc s[i]).1 h
     rw [c1] at hsp
     have hne47: ¬(s[i].toNat:Int)=47:=fun e=>c4 (UInt8.toNat_inj.1 (show s[i].toNat=47 by omega))
     rw [h] at hle
     have hrun:=Xcy partB s i hi
     have hnm:=Xbj ((s.take (i+((s.drop i).takeWhile partB).length)).drop i)
     rw [Xb3,hrun.sub,hd,Xca h,decide_eq_false Yan,←hd,←hrun.sub] at hnm
     rw [Tj hlt hr0] at hinv
     have hL1:1≤((s.drop i).takeWhile partB).length:=by rw [hd];exact S1 (Uh h)
     generalize ((s.drop i).takeWhile partB).length=L at hrun hinv hL1 hnm
     have hLle:=hrun.le
     rw [hinv]
     clear hinv
     (repeat' (first|refine Xe ?_|refine Xb ?_|refine Xc ?_|(apply Xn;exact Yb4;exact rfl)|(refine Wv rfl rfl rfl rfl rfl ?_)|refine Xo ?_|refine Xs ?_|refine Xx rfl ?_|refine Xy rfl ?_|(apply Xh;exact rfl;(apply Xi;first|(refine Xq Tryz.func88 rfl hsp rfl ?_;rintro _ _ ⟨rfl,rfl⟩)|(refine Xq Tryz.func89 rfl hle rfl ?_;rintro _ _ ⟨rfl,rfl⟩)))|(refine Wf rfl rfl (fun hb=>?_) (fun hb=>?_)<;>(repeat (first|replace hb:=Xz hb|replace hb:=X0 hb))<;>(try (exfalso;contradiction)))|(refine Xp rfl (fun hb=>?_) (fun hb=>?_)<;>(repeat (first|replace hb:=Xz hb|replace hb:=X0 hb))<;>(try (exfalso;omega)))))
     all_goals (try (exfalso;first|contradiction|omega))
     refine Ws (fun j:Nat=>([(0,exT s),(5,ex v),(6,exI .i64 (j:Int)),(7,exI .i64 (i:Int))],[vec v 40 4 acc.length (acc.flatMap Qa)])) (fun j=>i≤j∧j≤i+L) (fun j=>i+L-j) i ?_ ⟨Nat.le_refl _,by omega⟩ fun j hj=>?_
     · exact Xg (by repeat (first|exact Xr|refine Xl rfl ?_)) (List.Sublist.refl _)
     obtain ⟨hj1,hj2⟩:=hj
     by_cases hlj:j<i+L
     · have hjs:j<s.length:=by omega
       have hpj:=hrun.in_ j hjs hj1 hlj
       have hpj2:=Q8 s[j]
       rw [Xat,hpj] at hpj2
       (repeat' (first|refine Xe ?_|refine Xb ?_|refine Xc ?_|(apply Xn;exact Yb8;exact rfl)|(apply W0;exact rfl;exact rfl;exact rfl;exact Ydi;exact rfl)|refine Xo ?_|refine Xs ?_|refine Xx rfl ?_|(apply Vm;exact rfl;exact rfl;exact rfl;exact rfl;(apply Xi;(refine Xq Tryz.func90 rfl hpj2 rfl ?_;rintro _ _ ⟨rfl,rfl⟩)))|(refine Wf rfl rfl (fun hb=>?_) (fun hb=>?_)<;>(repeat (first|replace hb:=Xz hb|replace hb:=X0 hb))<;>(try (exfalso;omega)))))
       all_goals (try (exfalso;first|contradiction|omega))
       exact ⟨j+1,⟨by omega,by omega⟩,by omega,Xg (by repeat (first|exact Xr|refine Xl rfl ?_)) (List.Sublist.refl _)⟩
     have hje:j=i+L:=by omega
     subst hje
     by_cases hend:i+L<s.length
     · have hpj:=hrun.out_ hend
       have hpj2:=Q8 s[i+L]
       rw [Xat,hpj] at hpj2
       (repeat' (first|refine Xe ?_|refine Xb ?_|refine Xc ?_|(apply Xn;(first|exact Xf rfl|exact Xm rfl|exact Wd (b:=true) rfl (fun _=>rfl) (fun e=>by cases e)|exact Yam|exact Ycc|exact Yau|exact Yaz);exact rfl)|(apply W0;exact rfl;exact rfl;exact rfl;exact Ydi;exact rfl)|refine Xw ?_|refine Wm ?_|refine Xx rfl ?_|refine Xy rfl ?_|(apply Xh;exact rfl;(apply Xi;(refine Xq Tryz.func47 rfl hnm rfl ?_;rintro _ _ ⟨rfl,rfl⟩)))|(apply Vm;exact rfl;exact rfl;exact rfl;exact rfl;(apply Xi;(refine Xq Tryz.func90 rfl hpj2 rfl ?_;rintro _ _ ⟨rfl,rfl⟩)))|(refine Wf rfl rfl (fun hb=>?_) (fun hb=>?_)<;>(repeat (first|replace hb:=Xz hb|replace hb:=X0 hb))<;>(try (exfalso;omega)))))
       all_goals (try (exfalso;first|contradiction|omega))
       all_goals (refine ⟨.inr rfl,Xbz (loc':=[]) (Xcb rfl (.tmp rfl) (.tmp rfl) (.tmp rfl) (List.nil_sublist _) ⟨rfl,rfl⟩) ?_ ⟨rfl,rfl⟩⟩)
       all_goals exact Ims.tup (.cons Im.nil (.cons (Im.refl _) (.cons (Im.refl _) .nil)))
     · skip
       (repeat' (first|refine Xe ?_|refine Xb ?_|refine Xc ?_|(apply Xn;(first|exact Xf rfl|exact Xm rfl|exact Wd (b:=false) rfl (fun e=>by cases e) (fun _=>rfl)|exact Yam|exact Ycc|exact Yau|exact Yaz);exact rfl)|(refine Wv rfl rfl rfl rfl rfl ?_)|refine Xw ?_|refine Wm ?_|refine Xx rfl ?_|refine Xy rfl ?_|(apply Xh;exact rfl;(apply Xi;(refine Xq Tryz.func47 rfl hnm rfl ?_;rintro _ _ ⟨rfl,rfl⟩)))|(refine Wf rfl rfl (fun hb=>?_) (fun hb=>?_)<;>(repeat (first|replace hb:=Xz hb|replace hb:=X0 hb))<;>(try (exfalso;omega)))))
       all_goals (try (exfalso;first|contradiction|omega))
       all_goals (refine ⟨.inr rfl,Xbz (loc':=[]) (Xcb rfl (.tmp rfl) (.tmp rfl) (.tmp rfl) (List.nil_sublist _) ⟨rfl,rfl⟩) ?_ ⟨rfl,rfl⟩⟩)
       all_goals exact Ims.tup (.cons Im.nil (.cons (Im.refl _) (.cons (Im.refl _) .nil)))
   | badNum h h2=>
     obtain ⟨c1,c2,c3,c4,c5,c6⟩:=(Uc s[i]).2.1 h
     rw [c1] at hsp
     have hne47: ¬(s[i].toNat:Int)=47:=fun e=>c4 (UInt8.toNat_inj.1 (show s[i].toNat=47 by omega))
     rw [c2] at hle
     rw [h] at hfi
     have hrun:=Xcy digitB s i hi
     have hnu:=Xbp ((s.take (i+((s.drop i).takeWhile digitB).length)).drop i) (by rw [hrun.sub];exact Xa4) (by
       rw [hrun.sub,hd];intro e
       have:=S1 (s:=s.drop (i+1)) h
       rw [e] at this;simp at this) (by rw [hrun.sub];have:=Qc (p:=digitB) (s.drop i);rw [List.length_drop] at this;omega)
     rw [hrun.sub,hd,h2,←hd,←hrun.sub] at hnu
     rw [Tj hlt hr0] at hinv
     have hL1:1≤((s.drop i).takeWhile digitB).length:=by rw [hd];exact S1 h
     generalize ((s.drop i).takeWhile digitB).length=L at hrun hinv hL1 hnu
     have hLle:=hrun.le
     rw [hinv]
     clear hinv
     (repeat' (first|refine Xe ?_|refine Xb ?_|refine Xc ?_|(apply Xn;exact Yb4;exact rfl)|(refine Wv rfl rfl rfl rfl rfl ?_)|refine Xo ?_|refine Xs ?_|refine Xx rfl ?_|refine Xy rfl ?_|(apply Xh;exact rfl;(apply Xi;first|(refine Xq Tryz.func88 rfl hsp rfl ?_;rintro _ _ ⟨rfl,rfl⟩)|(refine Xq Tryz.func89 rfl hle rfl ?_;rintro _ _ ⟨rfl,rfl⟩)|(refine Xq Tryz.func91 rfl hfi rfl ?_;rintro _ _ ⟨rfl,rfl⟩)))|(refine Wf rfl rfl (fun hb=>?_) (fun hb=>?_)<;>(repeat (first|replace hb:=Xz hb|replace hb:=X0 hb))<;>(try (exfalso;contradiction)))|(refine Xp rfl (fun hb=>?_) (fun hb=>?_)<;>(repeat (first|replace hb:=Xz hb|replace hb:=X0 hb))<;>(try (exfalso;omega)))))
     all_goals (try (exfalso;first|contradiction|omega))
     refine Ws (fun j:Nat=>([(0,exT s),(5,ex v),(6,exI .i64 (j:Int)),(7,exI .i64 (i:Int))],[vec v 40 4 acc.length (acc.flatMap Qa)])) (fun j=>i≤j∧j≤i+L) (fun j=>i+L-j) i ?_ ⟨Nat.le_refl _,by omega⟩ fun j hj=>?_
     · exact Xg (by repeat (first|exact Xr|refine Xl rfl ?_)) (List.Sublist.refl _)
     obtain ⟨hj1,hj2⟩:=hj
     by_cases hlj:j<i+L
     · have hjs:j<s.length:=by omega
       have hpj:=hrun.in_ j hjs hj1 hlj
       have hfj:=Sr s[j]
       rw [Rn,hpj] at hfj
       (repeat' (first|refine Xe ?_|refine Xb ?_|refine Xc ?_|(apply Xn;exact Yb8;exact rfl)|(apply W0;exact rfl;exact rfl;exact rfl;exact Ydi;exact rfl)|refine Xo ?_|refine Xs ?_|refine Xx rfl ?_|(apply Vm;exact rfl;exact rfl;exact rfl;exact rfl;(apply Xi;(refine Xq Tryz.func91 rfl hfj rfl ?_;rintro _ _ ⟨rfl,rfl⟩)))|(refine Wf rfl rfl (fun hb=>?_) (fun hb=>?_)<;>(repeat (first|replace hb:=Xz hb|replace hb:=X0 hb))<;>(try (exfalso;omega)))))
       all_goals (try (exfalso;first|contradiction|omega))
       exact ⟨j+1,⟨by omega,by omega⟩,by omega,Xg (by repeat (first|exact Xr|refine Xl rfl ?_)) (List.Sublist.refl _)⟩
     have hje:j=i+L:=by omega
     subst hje
     by_cases hend:i+L<s.length
     · have hpj:=hrun.out_ hend
       have hfj:=Sr s[i+L]
       rw [Rn,hpj] at hfj
       (repeat' (first|refine Xe ?_|refine Xb ?_|refine Xc ?_|(apply Xn;(first|exact Xf rfl|exact Xm rfl|exact Wd (b:=true) rfl (fun _=>rfl) (fun e=>by cases e)|exact Ybb|exact Yam|exact Ycc|exact Yau|exact Yaz);exact rfl)|(apply W0;exact rfl;exact rfl;exact rfl;exact Ydi;exact rfl)|refine Xw ?_|refine Wm ?_|refine Xx rfl ?_|refine Xy rfl ?_|(apply Xh;exact rfl;(apply Xi;(refine Xq Tryz.func92 rfl hnu rfl ?_;rintro _ _ ⟨rfl,rfl⟩)))|(apply Vm;exact rfl;exact rfl;exact rfl;exact rfl;(apply Xi;(refine Xq Tryz.func91 rfl hfj rfl ?_;rintro _ _ ⟨rfl,rfl⟩)))|(refine Wf rfl rfl (fun hb=>?_) (fun hb=>?_)<;>(repeat (first|replace hb:=Xz hb|replace hb:=X0 hb))<;>(try (exfalso;omega)))))
       all_goals (try (exfalso;first|contradiction|omega))
       all_goals (refine ⟨.inr rfl,Xbz (loc':=[]) (Xcb rfl (.tmp rfl) (.tmp rfl) (.tmp rfl) (List.nil_sublist _) ⟨rfl,rfl⟩) ?_ ⟨rfl,rfl⟩⟩)
       all_goals exact Ims.tup (.cons Im.nil (.cons (Im.refl _) (.cons (Im.refl _) .nil)))
     · skip
       (repeat' (first|refine Xe ?_|refine Xb ?_|refine Xc ?_|(apply Xn;(first|exact Xf rfl|exact Xm rfl|exact Wd (b:=false) rfl (fun e=>by cases e) (fun _=>rfl)|exact Ybb|exact Yam|exact Ycc|exact Yau|exact Yaz);exact rfl)|(refine Wv rfl rfl rfl rfl rfl ?_)|refine Xw ?_|refine Wm ?_|refine Xx rfl ?_|refine Xy rfl ?_|(apply Xh;exact rfl;(apply Xi;(refine Xq Tryz.func92 rfl hnu rfl ?_;rintro _ _ ⟨rfl,rfl⟩)))|(refine Wf rfl rfl (fun hb=>?_) (fun hb=>?_)<;>(repeat (first|replace hb:=Xz hb|replace hb:=X0 hb))<;>(try (exfalso;omega)))))
       all_goals (try (exfalso;first|contradiction|omega))
       all_goals (refine ⟨.inr rfl,Xbz (loc':=[]) (Xcb rfl (.tmp rfl) (.tmp rfl) (.tmp rfl) (List.nil_sublist _) ⟨rfl,rfl⟩) ?_ ⟨rfl,rfl⟩⟩)
       all_goals exact Ims.tup (.cons Im.nil (.cons (Im.refl _) (.cons (Im.refl _) .nil)))
   | other h1 h2 h3 h4=>
     rw [Tj hlt hr0] at hinv
     rw [h1] at hsp
     rw [h2] at hle
     rw [h3] at hfi
     rw [h4] at hsg
     rw [hinv]
     have hne: ¬(s[i].toNat:Int)=47:=fun e=>by
       have e2:s[i]=47:=UInt8.toNat_inj.1 (show s[i].toNat=47 by omega)
       rw [e2,sign47] at h4;cases h4
     (repeat' (first|refine Xe ?_|refine Xb ?_|refine Xc ?_|(apply Xn;(first|exact Xf rfl|exact Xm rfl|exact Wd (b:=false) rfl (fun e=>by cases e) (fun _=>rfl)|exact Ycv|exact Yau|exact Yaz|exact Ya5);exact rfl)|(refine Wv rfl rfl rfl rfl rfl ?_)|refine Xo ?_|refine Xs ?_|refine Xw ?_|refine Xx rfl ?_|refine Xy rfl ?_|(apply Xh;exact rfl;(apply Xi;first|(refine Xq Tryz.func88 rfl hsp rfl ?_;rintro _ _ ⟨rfl,rfl⟩)|(refine Xq Tryz.func89 rfl hle rfl ?_;rintro _ _ ⟨rfl,rfl⟩)|(refine Xq Tryz.func91 rfl hfi rfl ?_;rintro _ _ ⟨rfl,rfl⟩)|(refine Xq Tryz.func48 rfl hsg rfl ?_;rintro _ _ ⟨rfl,rfl⟩)))|(refine Wf rfl rfl (fun hb=>?_) (fun hb=>?_)<;>(repeat (first|replace hb:=Xz hb|replace hb:=X0 hb))<;>(try (exfalso;contradiction)))|(refine Xp rfl (fun hb=>?_) (fun hb=>?_)<;>(repeat (first|replace hb:=Xz hb|replace hb:=X0 hb))<;>(try (exfalso;omega)))))
     all_goals (try (exfalso;first|contradiction|omega))
     all_goals (refine ⟨.inr rfl,Xbz (loc':=[]) (Xcb rfl (.tmp rfl) (.tmp rfl) (.tmp rfl) (List.nil_sublist _) ⟨rfl,rfl⟩) ?_ ⟨rfl,rfl⟩⟩)
     all_goals exact Ims.tup (.cons Im.nil (.cons (Im.refl _) (.cons (Im.refl _) .nil)))
 · have hie:i=s.length:=by omega
   subst hie
   rw [List.drop_length,Xb9] at hinv
   rw [hinv]
   (repeat' (first|(apply W2 29;refine Stop.out ?_)|refine Xe ?_|refine Xb ?_|refine Xc ?_|(apply Xn;(first|exact Xf rfl|exact Yam|exact Yau);exact rfl)|refine Wm ?_|(refine Xp rfl (fun hb=>?_) (fun hb=>?_)<;>(repeat (first|replace hb:=Xz hb|replace hb:=X0 hb))<;>(try (exfalso;omega)))))
   all_goals (try (exfalso;omega))
   refine ⟨X7 (Ro (k:=0) (t:=5) (E:=eTok) acc rfl rfl rfl rfl (hby:=by show _ * 40≤_;omega)) ?_⟩
   (repeat' (first|refine Xe ?_|refine Xb ?_|refine Xc ?_|(apply Xn;exact Yba;exact rfl)|refine Xw ?_))
   refine ⟨.inr rfl,Xbz (loc':=[]) (Xcb rfl (.tmp rfl) (.tmp rfl) (.tmp rfl) (List.nil_sublist _) ⟨rfl,rfl⟩) ?_ ⟨rfl,rfl⟩⟩
   show Im _ (tup [isl eTok (acc++[]),exI .i64 0,exI .i64 0])
   rw [List.append_nil]
   exact Ims.tup (.cons (Im.refl _) (.cons (Im.refl _) (.cons (Im.refl _) .nil)))
end Go.Proofs.YthdldeenpgeemaaGreatDoor
namespace Go.Fr
open Go.RowKit Go.Kx
section
variable {C:Cx} {S:(Nat→Prop)→World→World→Prop} {env:Env} {loc:List Ent} {dst:Option Tmp} {ty:TypeId} {pos:String} {af:Array Edge} {g:Option (Nat×Bool)}
theorem Xlm {t e m:TypeId} {parts:Array (Nat×Operand)} {pq:List (Nat×List SP)} {sz bt sze bte:Nat} {z ze:Value} {qs:List SP} (ht:C.P.underlying t=some (.array m e)) [hT:TI C.P t sz bt z] [hE:TI C.P e sze bte ze] (hp:PartsO env (fun i=>some (i * sze,sze)) parts.toList pq) (hq:Nf (Xbg (z.cells.toList.map ex) pq) qs:=by simp only [Xbg,Xfb,Value.cells,List.foldl_cons,List.foldl_nil,List.map_cons,List.map_nil,List.length_cons,List.length_nil,Nat.zero_add,Nat.reduceAdd,Nat.reduceMul,Nat.mul_one,List.take_succ_cons,List.take_zero,List.drop_succ_cons,List.drop_zero,List.nil_append,List.cons_append,List.drop_nil,List.take_nil,List.set_cons_zero,List.set_cons_succ];exact ⟨rfl⟩) (hle:pq.all (fun x=>Nat.ble (x.1+x.2.length) z.cells.size)=true:=by rfl):
   WT C S ⟨dst,.build t parts,ty,pos,af,g⟩ (agg qs) env loc:=by
 constructor
 intro F a w hR
 obtain ⟨ti,hi,_,_,hz⟩:=hT.out
 obtain ⟨te,hie,hse,_,_⟩:=hE.out
 obtain ⟨r,h1,h2⟩:=Xea (hp.vals hR) (Xh8 z.cells) (fun x hx=>by
   have:=List.all_eq_true.1 hle x hx
   simpa using Nat.le_of_ble_eq_true this)
 rw [hq.h]
 refine ⟨.agg r,⟨r.toList,by simp,h2⟩,fun w' _=>?_⟩
 have hb:C.P.built t (parts.map fun x=>(x.1,a.eval x.2)).toList=some r:=by
   simp only [Program.built,hi,ht,hz,hie,hse]
   rw [Array.toList_map];exact h1
 have:=run_build (P:=C.P) w' t (parts.map fun x=>(x.1,a.eval x.2)) r hb
 generalize a.eval=ρ at this ⊢
 simp only [execOp,Sem.run_bind,this]
 rfl
theorem Xqh (p q:List UInt8):(⟨p.toArray⟩:ByteArray)++⟨q.toArray⟩=⟨(p++q).toArray⟩:=by
 apply ByteArray.ext
 rw [ByteArray.data_append]
 simp
theorem Xeq {x y:Operand} {t u:TypeId} {p q:List UInt8} (hx:ev env x=some (exT p)) (hy:ev env y=some (exT q)) (hl:p.length+q.length≤9223372036854775807:=by first|omega|(simp;omega)):WT C S ⟨dst,.binOp .add t x y u,ty,pos,af,g⟩ (exT (p++q)) env loc:=by
 unfold exT
 rw [←Xqh p q]
 exact Xqw hx hy (by show p.toArray.size+q.toArray.size≤_;simpa using hl)
end
end Go.Fr
namespace Go.Fr
theorem Xjt (id:Nat) {C:Cx} {ops:Array Oper} {dr:Bool} {y:Code} {T:Exit→Act→World→Prop} {env:Env} {loc:List Ent} (h:WPR C (.seq (.region id ops dr) y) T env loc):WPR C (.seq (.region id ops dr) y) T env loc:=h
end Go.Fr
namespace Go.Proofs.YthdldeenpgeemaaGreatDoor
open Go Go.RowKit Go.Kx Go.Fr Go.Lx
theorem Xnj (s:List UInt8):FnC Tryz.prog 17 [exT s] [Lab] (fun p loc=>p=Xpv (Xmo s)∧loc=[]):=by
 generalize hz:Xmo s=z
 unfold Xpv
 unfold Xmo at hz
 by_cases hmx:65536<s.length
 · rw [if_pos hmx] at hz
   subst hz
   refine Xbk Tryz.func17 rfl Tryz.ntmps17 rfl fun w0 F0 out=>?_
   (repeat' (first|refine Xg0 ?_|refine Xe ?_|refine Xb ?_|refine Xc ?_|(apply Xn;(first|exact Xf rfl|exact Ybr|exact Yau);exact rfl)|refine Xw ?_|(apply Xh;exact rfl;first|(apply Wb;refine X8 ?_;intro _)|(apply Xt;first|refine Xj (k:=0) (l0:=[]) rfl rfl rfl ?_|refine Xj (k:=1) (l0:=[]) rfl rfl rfl ?_|refine Xj (k:=2) (l0:=[]) rfl rfl rfl ?_))|(refine Xp rfl (fun hb=>?_) (fun hb=>?_)<;>(repeat (first|replace hb:=Xz hb|replace hb:=X0 hb))<;>(try (exfalso;omega)))))
   all_goals (try (exfalso;omega))
   refine Xly rfl ⟨.inr rfl,Xbz (loc':=[]) (Xcb rfl (.cell1 (k:=2) rfl rfl rfl rfl rfl) (.cell1 (k:=1) rfl rfl rfl rfl rfl) (.cell1 (k:=0) rfl rfl rfl rfl rfl) (List.nil_sublist _) ⟨rfl,rfl⟩) ?_ ⟨rfl,rfl⟩⟩
   exact Ims.tup (.cons Im.nil (.cons (Im.refl _) (.cons (Im.refl _) .nil)))
 rw [if_neg hmx] at hz
 have hmax:s.length≤65536:=by omega
 refine Xbk Tryz.func17 rfl Tryz.ntmps17 rfl fun w0 F0 out=>?_
 (repeat' (first|(apply Xjt 3;refine Stop.out ?_)|refine Xg0 ?_|refine Xe ?_|refine Xb ?_|refine Xc ?_|(apply Xn;(first|exact Xf rfl|exact Ybr|exact Yau);exact rfl)|refine Xs ?_|(apply Xh;exact rfl;(apply Wb;refine X8 ?_;intro _))|(refine Xp rfl (fun hb=>?_) (fun hb=>?_)<;>(repeat (first|replace hb:=Xz hb|replace hb:=X0 hb))<;>(try (exfalso;omega)))))
 all_goals (try (exfalso;omega))
 rename_i b2 b3 b4
 refine ⟨?_⟩
 refine Xdu ?_
 refine Xoh (Xgp (vs:=[.pointer (some ⟨b2,0,none⟩),.pointer (some ⟨b3,0,none⟩),.pointer (some ⟨b4,0,none⟩)]) rfl) rfl ?_
 refine Xcv rfl ?_ rfl
 refine Xoi ?_
 (repeat' (first|refine Xe ?_|refine Xb ?_|refine Xc ?_|(apply Xn;(first|exact Xf rfl|exact Xm rfl|exact Yad|(apply Xhv;first|exact Xcf rfl rfl Yac|exact Xlm rfl Yac));exact rfl)|refine Xo ?_|(apply Xh;exact rfl;first|(apply Vp;refine W4 rfl ?_;intro _)|(apply Wb;refine X8 ?_;intro _)|(apply Xt;refine Xj (k:=0) (l0:=[]) rfl rfl rfl ?_))))
 rename_i b5 b6
 refine Ws (fun x:Nat×Option Addr×Nat×List TokD=>([(0,exT s),(2,ex (.pointer (some ⟨b2,0,none⟩))),(3,ex (.pointer (some ⟨b3,0,none⟩))),(4,ex (.pointer (some ⟨b4,0,none⟩))),(5,ex (.pointer (some ⟨b5,0,none⟩))),(6,ex (.pointer (some ⟨b6,0,none⟩)))],[row b6 90 3 [exT s,exI .i64 (x.1:Int),ex (.slice x.2.1 x.2.2.2.length x.2.2.1)],vec (.slice x.2.1 x.2.2.2.length x.2.2.1) 40 4 x.2.2.2.length (x.2.2.2.flatMap Qa),row b5 87 6 [ex (.func (.func 41) #[] #[]),ex (.func (.func 42) #[] #[]),ex (.func (.func 43) #[] #[]),ex (.func (.func 44) #[] #[]),ex (.func (.func 45) #[] #[]),ex (.func (.func 41) #[] #[])],row b4 30 1 [exI .i64 0],row b3 3 1 [exI .i64 0],row b2 41 1 [ex (.slice none 0 0)],Lab])) (fun x=>x.1≤s.length∧x.2.2.2.length≤x.1∧T7 0 s=(T7 x.1 (s.drop x.1)).map (x.2.2.2++ ·)) (fun x=>s.length-x.1) (0,none,0,[]) ?_ ⟨Nat.zero_le _,Nat.le_refl _,?_⟩ fun x hx=>?_
 · refine Leads.trans (Rl (T:=40) (sz:=4)).leads ?_
   refine Leads.trans (Uo (.swap _ _ _)) ?_
   exact Xg (by repeat (first|exact Xr|refine Xl rfl ?_)) (List.Sublist.refl _)
 · show T7 0 s=(T7 0 s).map ([]++ ·)
   cases T7 0 s<;>rfl
 obtain ⟨i,oa,c,acc⟩:=x
 obtain ⟨hi,hacc,hinv⟩:=hx
 simp only at hi hacc hinv ⊢
 have hpanic: ∀{env:Env},T7 i (s.drop i)= .error i→Fr.look 2 env=some (ex (.pointer (some ⟨b2,0,none⟩)))→Fr.look 3 env=some (ex (.pointer (some ⟨b3,0,none⟩)))→Fr.look 4 env=some (ex (.pointer (some ⟨b4,0,none⟩)))→ ∀e2:Ent,Xn5 (Cx.withD ⟨Tryz.prog,w0,F0,Rj [Lab],out,39,[]⟩ ⟨.fn (.func 40) #[.pointer (some ⟨b2,0,none⟩),.pointer (some ⟨b3,0,none⟩),.pointer (some ⟨b4,0,none⟩)],#[]⟩) (Xpw ⟨Tryz.prog,w0,F0,Rj [Lab],out,39,[]⟩ Tryz.f17 fun p loc=>p=tup [isl eTok z.1,exI .i64 z.2.1,exI .i64 z.2.2]∧loc=[]) (.panic [{ v:= .iface 83 (.int .i64 (i:Int)),recovered:=false }]) env ([e2,row b4 30 1 [exI .i64 0],row b3 3 1 [exI .i64 0],row b2 41 1 [ex (.slice none 0 0)],Lab]):=by
   intro env he g2 g3 g4 e2
   rw [he] at hinv
   rw [show T7 0 s= .error i from hinv] at hz
   subst hz
   refine Xnn (vs:=[.pointer (some ⟨b2,0,none⟩),.pointer (some ⟨b3,0,none⟩),.pointer (some ⟨b4,0,none⟩)]) rfl rfl (.one 3 rfl (.one 2 rfl (.one 1 rfl .nil))) Tryz.func40 rfl rfl (Xi8 b2 b3 b4 _ _ _ i) (.ex (.ex (.ex .nil))) ?_
   rintro u' loc' ⟨rfl,rfl⟩
   refine ⟨rfl,.inr rfl,Xbz (loc':=[]) (Xcb rfl (.cell1 (k:=0) g2 rfl rfl rfl rfl) (.cell1 (k:=1) g3 rfl rfl rfl rfl) (.cell1 (k:=2) g4 rfl rfl rfl rfl) (List.nil_sublist _) ⟨rfl,rfl⟩) ?_ ⟨rfl,rfl⟩⟩
   exact Ims.tup (.cons Im.nil (.cons (Im.refl _) (.cons (Im.refl _) .nil)))
 have hpanicv: ∀{env:Env},T7 i (s.drop i)= .error i→Fr.look 2 env=some (ex (.pointer (some ⟨b2,0,none⟩)))→Fr.look 3 env=some (ex (.pointer (some ⟨b3,0,none⟩)))→Fr.look 4 env=some (ex (.pointer (some ⟨b4,0,none⟩)))→ ∀e1 e2:Ent,Xn5 (Cx.withD ⟨Tryz.prog,w0,F0,Rj [Lab],out,39,[]⟩ ⟨.fn (.func 40) #[.pointer (some ⟨b2,0,none⟩),.pointer (some ⟨b3,0,none⟩),.pointer (some ⟨b4,0,none⟩)],#[]⟩) (Xpw ⟨Tryz.prog,w0,F0,Rj [Lab],out,39,[]⟩ Tryz.f17 fun p loc=>p=tup [isl eTok z.1,exI .i64 z.2.1,exI .i64 z.2.2]∧loc=[]) (.panic [{ v:= .iface 83 (.int .i64 (i:Int)),recovered:=false }]) env (e1::[e2,row b4 30 1 [exI .i64 0],row b3 3 1 [exI .i64 0],row b2 41 1 [ex (.slice none 0 0)],Lab]):=by
   intro env he g2 g3 g4 e1 e2 F a w hR
   obtain ⟨F',hR'⟩:=Xjy (C:=Cx.withD ⟨Tryz.prog,w0,F0,Rj [Lab],out,39,[]⟩ ⟨.fn (.func 40) #[.pointer (some ⟨b2,0,none⟩),.pointer (some ⟨b3,0,none⟩),.pointer (some ⟨b4,0,none⟩)],#[]⟩) (env:=env) (List.sublist_cons_self e1 _) F a w hR
   exact hpanic he g2 g3 g4 e2 F' a w hR'
 by_cases hlt:i<s.length
 · have hcs:=Sh s[i]
   have hcf:=Xj1 s[i]
   generalize Ue s[i]=cf at hcs hcf
   by_cases h1:V3 s[i]=true
   · rw [if_pos h1] at hcf
     subst hcf
     have hst:=Xj5 b6 i s oa c acc hlt hmax hacc h1
     unfold scanL at hst
     (repeat' (first|(apply X4 34;refine Su (vs:=[]) (args:=[ex (.pointer (some ⟨b6,0,none⟩))]) rfl .nil (.one 0 rfl (.one 0 rfl .nil)) Tryz.func43 rfl hst rfl ?_ ?_)|refine Xe ?_|refine Xb ?_|refine Xc ?_|(apply Xn;exact Ybe;exact rfl)|refine Xo ?_|refine Xs ?_|(apply Xh;exact rfl;(apply Xi;(refine Xq Tryz.func46 rfl hcs rfl ?_;rintro _ _ ⟨rfl,rfl⟩)))|(refine Xp rfl (fun hb=>?_) (fun hb=>?_)<;>(repeat (first|replace hb:=Xz hb|replace hb:=X0 hb))<;>(try (exfalso;omega)))))
     all_goals (try (exfalso;first|contradiction|omega))
     · (rintro p loc ⟨n,oa2,c2,acc2,rfl,g1,g2,g3,g4⟩;(repeat' (refine Xc ?_));exact ⟨(i+n,oa2,c2,acc2),⟨g2,by show acc2.length≤i+n;omega,hinv.trans g4⟩,by show s.length-(i+n)<s.length-i;omega,Xg (by repeat (first|exact Xr|refine Xl rfl ?_)) (List.Sublist.refl _)⟩)
     · rintro ch loc ⟨e1,rfl,rfl⟩
       refine hpanic e1 ?_ ?_ ?_ _<;>rfl
   rw [if_neg h1] at hcf
   by_cases h2:digitB s[i]=true
   · rw [if_pos h2] at hcf
     subst hcf
     have hst:=Xgw b6 i s oa c acc hlt hmax hacc h2
     unfold scanL at hst
     (repeat' (first|(apply X4 34;refine Su (vs:=[]) (args:=[ex (.pointer (some ⟨b6,0,none⟩))]) rfl .nil (.one 0 rfl (.one 0 rfl (.dup 4 rfl rfl .nil))) Tryz.func44 rfl hst rfl ?_ ?_)|refine Xe ?_|refine Xb ?_|refine Xc ?_|(apply Xn;exact Ybe;exact rfl)|refine Xo ?_|refine Xs ?_|(apply Xh;exact rfl;(apply Xi;(refine Xq Tryz.func46 rfl hcs rfl ?_;rintro _ _ ⟨rfl,rfl⟩)))|(refine Xp rfl (fun hb=>?_) (fun hb=>?_)<;>(repeat (first|replace hb:=Xz hb|replace hb:=X0 hb))<;>(try (exfalso;omega)))))
     all_goals (try (exfalso;first|contradiction|omega))
     · (rintro p loc ⟨n,oa2,c2,acc2,rfl,g1,g2,g3,g4⟩;(repeat' (refine Xc ?_));exact ⟨(i+n,oa2,c2,acc2),⟨g2,by show acc2.length≤i+n;omega,hinv.trans g4⟩,by show s.length-(i+n)<s.length-i;omega,Xg (by repeat (first|exact Xr|refine Xl rfl ?_)) (List.Sublist.refl _)⟩)
     · rintro ch loc ⟨e1,rfl,rfl⟩
       refine hpanic e1 ?_ ?_ ?_ _<;>rfl
   rw [if_neg h2] at hcf
   by_cases h5:s[i]=95
   · rw [if_pos h5] at hcf
     subst hcf
     have hst:=Xdf b6 i s (ex (.slice oa acc.length c))
     (repeat' (first|(apply X4 34;refine Su (vs:=[]) (args:=[ex (.pointer (some ⟨b6,0,none⟩))]) rfl .nil (.one 0 rfl .nil) Tryz.func41 rfl hst rfl ?_ ?_)|refine Xe ?_|refine Xb ?_|refine Xc ?_|(apply Xn;exact Ybe;exact rfl)|refine Xo ?_|refine Xs ?_|(apply Xh;exact rfl;(apply Xi;(refine Xq Tryz.func46 rfl hcs rfl ?_;rintro _ _ ⟨rfl,rfl⟩)))|(refine Xp rfl (fun hb=>?_) (fun hb=>?_)<;>(repeat (first|replace hb:=Xz hb|replace hb:=X0 hb))<;>(try (exfalso;omega)))))
     all_goals (try (exfalso;first|contradiction|omega))
     · rintro p loc hF;exact hF.elim
     · rintro ch loc ⟨rfl,rfl⟩
       refine hpanicv (Xh0 hlt (by rw [h5];decide) (by rw [h5];decide) (by rw [h5];decide) (by rw [h5];decide)) ?_ ?_ ?_ _ _<;>rfl
   rw [if_neg h5] at hcf
   by_cases h3:spaceB s[i]=true
   · rw [if_pos h3] at hcf
     subst hcf
     have hst:=Xi6 b6 i s oa c acc hlt hmax h3
     unfold scanL at hst
     (repeat' (first|(apply X4 34;refine Su (vs:=[]) (args:=[ex (.pointer (some ⟨b6,0,none⟩))]) rfl .nil (.one 0 rfl (.one 0 rfl .nil)) Tryz.func42 rfl hst rfl ?_ ?_)|refine Xe ?_|refine Xb ?_|refine Xc ?_|(apply Xn;exact Ybe;exact rfl)|refine Xo ?_|refine Xs ?_|(apply Xh;exact rfl;(apply Xi;(refine Xq Tryz.func46 rfl hcs rfl ?_;rintro _ _ ⟨rfl,rfl⟩)))|(refine Xp rfl (fun hb=>?_) (fun hb=>?_)<;>(repeat (first|replace hb:=Xz hb|replace hb:=X0 hb))<;>(try (exfalso;omega)))))
     all_goals (try (exfalso;first|contradiction|omega))
     · (rintro p loc ⟨n,oa2,c2,acc2,rfl,g1,g2,g3,g4⟩;(repeat' (refine Xc ?_));exact ⟨(i+n,oa2,c2,acc2),⟨g2,by show acc2.length≤i+n;omega,hinv.trans g4⟩,by show s.length-(i+n)<s.length-i;omega,Xg (by repeat (first|exact Xr|refine Xl rfl ?_)) (List.Sublist.refl _)⟩)
     · rintro ch loc ⟨e1,rfl,rfl⟩
       refine hpanic e1 ?_ ?_ ?_ _<;>rfl
   rw [if_neg h3] at hcf
   by_cases h4:Tu s[i]=true
   · rw [if_pos h4] at hcf
     subst hcf
     have hst:=Xj6 b6 i s oa c acc hlt hmax hacc h4
     unfold scanL at hst
     (repeat' (first|(apply X4 34;refine Su (vs:=[]) (args:=[ex (.pointer (some ⟨b6,0,none⟩))]) rfl .nil (.one 0 rfl (.one 0 rfl .nil)) Tryz.func45 rfl hst rfl ?_ ?_)|refine Xe ?_|refine Xb ?_|refine Xc ?_|(apply Xn;exact Ybe;exact rfl)|refine Xo ?_|refine Xs ?_|(apply Xh;exact rfl;(apply Xi;(refine Xq Tryz.func46 rfl hcs rfl ?_;rintro _ _ ⟨rfl,rfl⟩)))|(refine Xp rfl (fun hb=>?_) (fun hb=>?_)<;>(repeat (first|replace hb:=Xz hb|replace hb:=X0 hb))<;>(try (exfalso;omega)))))
     all_goals (try (exfalso;first|contradiction|omega))
     · (rintro p loc ⟨n,oa2,c2,acc2,rfl,g1,g2,g3,g4⟩;(repeat' (refine Xc ?_));exact ⟨(i+n,oa2,c2,acc2),⟨g2,by show acc2.length≤i+n;omega,hinv.trans g4⟩,by show s.length-(i+n)<s.length-i;omega,Xg (by repeat (first|exact Xr|refine Xl rfl ?_)) (List.Sublist.refl _)⟩)
     · rintro ch loc ⟨e1,rfl,rfl⟩
       refine hpanic e1 ?_ ?_ ?_ _<;>rfl
   · rw [if_neg h4] at hcf
     subst hcf
     have hst:=Xdf b6 i s (ex (.slice oa acc.length c))
     (repeat' (first|(apply X4 34;refine Su (vs:=[]) (args:=[ex (.pointer (some ⟨b6,0,none⟩))]) rfl .nil (.one 0 rfl .nil) Tryz.func41 rfl hst rfl ?_ ?_)|refine Xe ?_|refine Xb ?_|refine Xc ?_|(apply Xn;exact Ybe;exact rfl)|refine Xo ?_|refine Xs ?_|(apply Xh;exact rfl;(apply Xi;(refine Xq Tryz.func46 rfl hcs rfl ?_;rintro _ _ ⟨rfl,rfl⟩)))|(refine Xp rfl (fun hb=>?_) (fun hb=>?_)<;>(repeat (first|replace hb:=Xz hb|replace hb:=X0 hb))<;>(try (exfalso;omega)))))
     all_goals (try (exfalso;first|contradiction|omega))
     · rintro p loc hF;exact hF.elim
     · rintro ch loc ⟨rfl,rfl⟩
       refine hpanicv (Xh0 hlt (by simpa using h3) (by simpa using h1) Yeh (by simpa using h4)) ?_ ?_ ?_ _ _<;>rfl
 · rw [show i=s.length by omega,List.drop_length,Xb9] at hinv
   have hinv:T7 0 s= .ok acc:=by rw [hinv];show Except.ok _=Except.ok _;simp
   rw [hinv] at hz
   subst hz
   (repeat' (first|refine Xe ?_|refine Xb ?_|refine Xc ?_|(apply Xn;(first|exact Xf rfl|exact Yai|exact Yad|exact Yam|exact Yau|exact Yat);exact rfl)|refine Xw ?_|refine Wm ?_|(apply Xh;exact rfl;(apply Xt;first|refine Xj (k:=3) (l0:=[]) rfl rfl rfl ?_|refine Xj (k:=4) (l0:=[]) rfl rfl rfl ?_|refine Xj (k:=5) (l0:=[]) rfl rfl rfl ?_))|(refine Xp rfl (fun hb=>?_) (fun hb=>?_)<;>(repeat (first|replace hb:=Xz hb|replace hb:=X0 hb))<;>(try (exfalso;omega)))))
   all_goals (try (exfalso;first|contradiction|omega))
   refine Xnn (vs:=[.pointer (some ⟨b2,0,none⟩),.pointer (some ⟨b3,0,none⟩),.pointer (some ⟨b4,0,none⟩)]) rfl rfl (.one 5 rfl (.one 4 rfl (.one 3 rfl .nil))) Tryz.func40 rfl rfl (Xj7 b2 b3 b4 (ex (.slice oa acc.length c)) (exI .i64 0) (exI .i64 0)) (.ex (.ex (.ex .nil))) ?_
   rintro u' loc' ⟨rfl,rfl⟩
   refine ⟨rfl,Tk (Vi (j:=4) (k:=0) (i:=0) (E:=eTok) acc rfl rfl rfl rfl rfl rfl (hby:=by show acc.length * 40≤_;omega)) ?_⟩
   exact ⟨.inr rfl,Xcb rfl (.cell1 (k:=0) rfl rfl rfl rfl rfl) (.cell1 (k:=1) rfl rfl rfl rfl rfl) (.cell1 (k:=2) rfl rfl rfl rfl rfl) (List.nil_sublist _) ⟨rfl,rfl⟩⟩
end Go.Proofs.YthdldeenpgeemaaGreatDoor
namespace Go.Lx
end Go.Lx
namespace Go.Proofs.YthdldeenpgeemaaGreatDoor
open Go Go.RowKit Go.Kx Go.Fr Go.Lx
end Go.Proofs.YthdldeenpgeemaaGreatDoor
namespace Go.Lx
theorem decF_len: ∀(k n:Nat),n<10 ^ (k+1)→(decF n).length≤k+1
 | 0,n,h=>by rw [Uy (by simpa using h)];exact Nat.le_refl _
 | k+1,n,h=>by
   by_cases h1:n<10
   · rw [Uy h1];exact Nat.succ_le_succ (Nat.zero_le _)
   · rw [Rf h1,List.length_append]
     have:=decF_len k (n / 10) (by rw [Nat.pow_succ] at h;omega)
     simp only [List.length_cons,List.length_nil];omega
theorem Xil {t:TokD} (h:V0 t=true):(word t).length≤32:=by
 unfold V0 at h
 unfold word
 by_cases h1:t.kind=1
 · rw [if_pos h1] at h
   rw [if_neg Yan]
   unfold Ru at h
   simp only [Bool.and_eq_true,decide_eq_true_eq] at h
   exact h.1.1.2
 rw [if_neg h1] at h
 by_cases h2:t.kind=2
 · rw [if_pos h2] at h
   rw [if_pos h2]
   simp only [Bool.and_eq_true,decide_eq_true_eq] at h
   exact Nat.le_trans (decF_len 12 _ (by have:=h.2;show _<10000000000000;omega)) Yao
 rw [if_neg h2] at h
 rw [if_neg h2]
 by_cases h3:t.kind=3
 · rw [if_pos h3] at h
   simp only [Bool.and_eq_true,decide_eq_true_eq] at h
   omega
 · rw [if_neg h3] at h;cases h
theorem joinF_len: ∀(l:List (List UInt8)),(∀w∈l,w.length≤32)→(joinF l).length≤33 * l.length
 | [],_=>Nat.zero_le _
 | [w],h=>by have:=h w Yb9;show w.length≤33;omega
 | w::v::l,h=>by
   rw [Xbl]
   have h1:=h w Yb9
   have h2:=joinF_len (v::l) fun x hx=>h x (List.mem_cons_of_mem _ hx)
   simp only [List.length_append,List.length_cons] at h2 ⊢
   omega
theorem Xdt (w:List UInt8): ∀(l:List (List UInt8)),l≠[]→joinF (l++[w])=joinF l++32::w
 | [],h=>absurd rfl h
 | [v],_=>rfl
 | v::u::l,_=>by
   show v++32::joinF ((u::l)++[w])=_
   rw [Xdt w (u::l) Yb9,Xbl]
   simp
theorem words_len {l:List TokD} (h: ∀t∈l,V0 t=true):(joinF (l.map word)).length≤33 * l.length:=by
 have:=joinF_len (l.map word) fun w hw=>by
   obtain ⟨t,ht,rfl⟩:=List.mem_map.1 hw
   exact Xil (h t ht)
 rwa [List.length_map] at this
end Go.Lx
namespace Go.Proofs.YthdldeenpgeemaaGreatDoor
open Go Go.RowKit Go.Kx Go.Fr Go.Lx
theorem Xer (n:Nat) (hn:n≤1099511627776):FnC Tryz.prog 125 [exI .i64 (n:Int)] [] (fun p loc=>p=exT (decF n)∧loc=[]):=by
 refine X3 Tryz.func125 rfl Tryz.ntmps125 rfl fun w0 F0 out=>?_
 (repeat' (first|(apply X4 9;refine Wj (k:=0) (E:=eByte) (t:=8) [UInt8.ofNat (48+n % 10)] rfl rfl rfl rfl ?_)|refine Xe ?_|refine Xb ?_|refine Xc ?_|(apply Xn;(first|exact Xf rfl|exact Xm rfl|(apply Vx;first|exact S5 rfl rfl|exact Xon rfl rfl)|(apply Xmg;first|exact Xgo rfl rfl rfl|exact Xoo rfl rfl rfl rfl));exact rfl)|refine Xo ?_|(apply Xh;exact rfl;(apply X5;(refine X6 rfl rfl ?_);intro _))))
 refine Ws (fun x:Nat×List UInt8=>([(0,exI .i64 (x.1:Int)),(3,exT (UInt8.ofNat (48+x.1 % 10)::x.2))],[])) (fun x=>x.1≤1099511627776∧decF n=decF x.1++x.2∧x.2.length≤20) (fun x=>x.1) (n,[]) ?_ ⟨hn,by simp,by simp⟩ fun x hx=>?_
 · exact Xg (by repeat (first|exact Xr|refine Xl rfl ?_)) (List.Sublist.refl _)
 obtain ⟨m,e⟩:=x
 obtain ⟨hm,he,hle⟩:=hx
 simp only at hm he hle ⊢
 have hdl:=decF_len 12 n (by show _<10000000000000;omega)
 by_cases hlt:10≤m
 · rw [Rf (n:=m) Yan] at he
   have hel:=congrArg List.length he
   have hne:=List.length_pos_iff.2 (Xhq (m / 10))
   simp only [List.length_append,List.length_cons,List.length_nil] at hel
   (repeat' (first|(apply X4 19;refine Wj (k:=0) (E:=eByte) (t:=18) [UInt8.ofNat (48+m / 10 % 10)] rfl rfl rfl rfl ?_)|refine Xe ?_|refine Xb ?_|refine Xc ?_|(apply Xn;(first|exact Xf rfl|exact Xm rfl|(apply Vx;first|exact Xeq rfl rfl|exact Qy rfl rfl|exact S5 rfl rfl|exact Xon rfl rfl|exact Xqr rfl rfl)|(apply Xmg;first|exact Xgo rfl rfl rfl|exact Xoo rfl rfl rfl rfl));exact rfl)|refine Xo ?_|refine Xs ?_|(apply Xh;exact rfl;(apply X5;(refine X6 rfl rfl ?_);intro _))|(refine Xp rfl (fun hb=>?_) (fun hb=>?_)<;>(repeat (first|replace hb:=Xz hb|replace hb:=X0 hb))<;>(try (exfalso;omega)))))
   all_goals (try (exfalso;omega))
   exact ⟨(m / 10,UInt8.ofNat (48+m % 10)::e),⟨by show m / 10≤_;omega,by rw [he];simp,by simp only [List.length_cons];omega⟩,by show m / 10<m;omega,Xg (by repeat (first|exact Xr|refine Xl rfl ?_)) (List.Sublist.refl _)⟩
 · rw [Uy (n:=m) Yan] at he
   rw [he]
   (repeat' (first|refine Xe ?_|refine Xb ?_|refine Xc ?_|(apply Xn;exact Yc8;exact rfl)|refine Xw ?_|refine Wm ?_|(refine Xp rfl (fun hb=>?_) (fun hb=>?_)<;>(repeat (first|replace hb:=Xz hb|replace hb:=X0 hb))<;>(try (exfalso;omega)))))
   all_goals (try (exfalso;omega))
   refine ⟨.inr rfl,Vd rfl (.tmp rfl) (List.nil_sublist _) ⟨?_,rfl⟩⟩
   rw [Nat.mod_eq_of_lt Yan];rfl
end Go.Proofs.YthdldeenpgeemaaGreatDoor
namespace Go.Lx
theorem Xim {l:List TokD} {i:Nat} (hi:i<l.length) (h:V0 l[i]=false):Xad l=([],30):=by
 unfold Xad
 rw [if_neg (fun e=>by rw [List.all_eq_true.1 e l[i] (List.getElem_mem hi)] at h;cases h)]
theorem Xf6 {l:List TokD} (h: ∀t∈l,V0 t=true):Xad l=(joinF (l.map word),0):=by
 unfold Xad
 rw [if_pos (List.all_eq_true.2 h)]
theorem Xf7 {t:TokD} (h:V0 t=true) (h2:t.kind=2):((t.n.toNat:Nat):Int)=t.n∧t.n.toNat≤1099511627776:=by
 unfold V0 at h
 rw [if_neg Yan,if_pos h2] at h
 simp only [Bool.and_eq_true,decide_eq_true_eq] at h
 omega
theorem Xin {t:TokD} (h:t.kind=2):word t=decF t.n.toNat:=by unfold word;rw [if_pos h]
theorem Xf8 {t:TokD} (h: ¬t.kind=2):word t=t.text:=by unfold word;rw [if_neg h]
theorem Xio {l:List TokD} {i:Nat} (hi:i<l.length) (hv: ∀t∈l.take i,V0 t=true) (h:V0 l[i]=true): ∀t∈l.take (i+1),V0 t=true:=fun t ht=>by
 rw [List.take_succ_eq_append_getElem hi] at ht
 rcases List.mem_append.1 ht with ht|ht
 · exact hv t ht
 · rw [List.mem_singleton.1 ht];exact h
theorem Xhk {l:List TokD} {i:Nat} (hi:i<l.length):joinF ((l.take (i+1)).map word)=if i=0 then word l[i] else joinF ((l.take i).map word)++32::word l[i]:=by
 rw [List.take_succ_eq_append_getElem hi,List.map_append]
 by_cases h:i=0
 · subst h;rw [if_pos rfl];rfl
 · rw [if_neg h]
   exact Xdt _ _ (by rw [ne_eq,List.map_eq_nil_iff];intro e;have:=congrArg List.length e;rw [List.length_take,List.length_nil] at this;omega)
end Go.Lx
namespace Go.Proofs.YthdldeenpgeemaaGreatDoor
open Go Go.RowKit Go.Kx Go.Fr Go.Lx
def Xf9 (z:List UInt8×Int):SP:=tup [exT z.1,exI .i64 z.2]
theorem Xju (l:List TokD):FnC Tryz.prog 39 [isl eTok l] [] (fun p loc=>p=Xf9 (Xad l)∧loc=[]):=by
 refine Wp (i:=0) rfl Wu fun ha=>?_
 replace ha:l.length * 40≤140737488355328:=ha.2
 generalize hz:Xad l=z
 unfold Xf9
 refine X3 Tryz.func39 rfl Tryz.ntmps39 rfl fun w0 F0 out=>?_
 (repeat' (first|refine Xe ?_|refine Xb ?_|refine Xc ?_|(apply Xn;(exact Xm rfl);exact rfl)|refine Xo ?_))
 refine Ws (fun x:Nat×List UInt8=>([(0,isl eTok l),(4,exT x.2),(5,exI .i64 (x.1:Int))],[])) (fun x=>x.1≤l.length∧x.2=joinF ((l.take x.1).map word)∧ ∀t∈l.take x.1,V0 t=true) (fun x=>l.length-x.1) (0,[]) ?_ ⟨Nat.zero_le _,rfl,fun t h=>by cases h⟩ fun x hi=>?_
 · exact Xg (by repeat (first|exact Xr|refine Xl rfl ?_)) (List.Sublist.refl _)
 obtain ⟨i,s⟩:=x
 obtain ⟨hi,hs,hpre⟩:=hi
 simp only at hi hs hpre ⊢
 by_cases hlt:i<l.length
 · have hvl:=Xgs l[i]
   cases hv:V0 l[i]
   · rw [hv] at hvl
     rw [Xim hlt hv] at hz
     subst hz
     clear hpre
     (repeat' (first|refine Xe ?_|refine Xb ?_|refine Xc ?_|(apply Xn;(first|exact Xf rfl|exact Xm rfl|exact Yav|exact Yam|exact Yah|exact Yaj|exact Yaz);exact rfl)|refine Xo ?_|refine Xs ?_|refine Xw ?_|refine Xx rfl ?_|(apply Xh;exact rfl;(apply Xi;(refine Xq Tryz.func18 rfl hvl rfl ?_;rintro _ _ ⟨rfl,rfl⟩)))|(refine Xp rfl (fun hb=>?_) (fun hb=>?_)<;>(repeat (first|replace hb:=Xz hb|replace hb:=X0 hb))<;>(try (exfalso;omega)))))
     all_goals (try (exfalso;first|contradiction|omega))
     all_goals exact ⟨.inr rfl,S8 rfl (.tmp rfl) (.tmp rfl) (List.nil_sublist _) ⟨rfl,rfl⟩⟩
   · rw [hv] at hvl
     have hpre2:=Xio hlt hpre hv
     have hsl:s.length≤33 * l.length:=by
       have:=words_len hpre
       rw [←hs,List.length_take] at this
       omega
     have hwl:=Xil hv
     have hj:=Xhk hlt
     rw [←hs] at hj
     clear hpre
     by_cases h2:l[i].kind=2
     · obtain ⟨hn1,hn2⟩:=Xf7 hv h2
       have hdec:=Xer l[i].n.toNat hn2
       rw [hn1,←Xin h2] at hdec
       clear hn1
       by_cases h0:i=0
       · rw [if_pos h0] at hj
         have hs0:s=[]:=by rw [hs,h0];rfl
         subst hs0
         clear hs
         (repeat' (first|refine Xe ?_|refine Xb ?_|refine Xc ?_|(apply Xn;exact Ybx;exact rfl)|refine Xo ?_|refine Xs ?_|refine Xy rfl ?_|(apply Xh;exact rfl;(apply Xi;first|(refine Xq Tryz.func18 rfl hvl rfl ?_;rintro _ _ ⟨rfl,rfl⟩)|(refine Xq Tryz.func125 rfl hdec rfl ?_;rintro _ _ ⟨rfl,rfl⟩)))|(refine Xp rfl (fun hb=>?_) (fun hb=>?_)<;>(repeat (first|replace hb:=Xz hb|replace hb:=X0 hb))<;>(try (exfalso;first|contradiction|omega)))))
         all_goals (try (exfalso;first|contradiction|omega))
         exact ⟨(i+1,word l[i]),⟨by show i+1≤_;omega,hj.symm,hpre2⟩,by show l.length-(i+1)<l.length-i;omega,Xg (by repeat (first|exact Xr|refine Xl rfl ?_)) (List.Sublist.refl _)⟩
       · rw [if_neg h0] at hj
         clear hs
         (repeat' (first|refine Xe ?_|refine Xb ?_|refine Xc ?_|(apply Xn;exact Ybx;exact rfl)|refine Xo ?_|refine Xs ?_|refine Xy rfl ?_|(apply Xh;exact rfl;(apply Xi;first|(refine Xq Tryz.func18 rfl hvl rfl ?_;rintro _ _ ⟨rfl,rfl⟩)|(refine Xq Tryz.func125 rfl hdec rfl ?_;rintro _ _ ⟨rfl,rfl⟩)))|(refine Xp rfl (fun hb=>?_) (fun hb=>?_)<;>(repeat (first|replace hb:=Xz hb|replace hb:=X0 hb))<;>(try (exfalso;first|contradiction|omega)))))
         all_goals (try (exfalso;first|contradiction|omega))
         exact ⟨(i+1,(s++[32])++word l[i]),⟨by show i+1≤_;omega,by show (s++[32])++word l[i]=_;rw [hj];simp,hpre2⟩,by show l.length-(i+1)<l.length-i;omega,Xg (by repeat (first|exact Xr|refine Xl rfl ?_)) (List.Sublist.refl _)⟩
     · rw [Xf8 h2] at hwl hj
       by_cases h0:i=0
       · rw [if_pos h0] at hj
         have hs0:s=[]:=by rw [hs,h0];rfl
         subst hs0
         clear hs
         (repeat' (first|refine Xe ?_|refine Xb ?_|refine Xc ?_|(apply Xn;exact Ybx;exact rfl)|refine Xo ?_|refine Xs ?_|refine Xy rfl ?_|(apply Xh;exact rfl;(apply Xi;(refine Xq Tryz.func18 rfl hvl rfl ?_;rintro _ _ ⟨rfl,rfl⟩)))|(refine Xp rfl (fun hb=>?_) (fun hb=>?_)<;>(repeat (first|replace hb:=Xz hb|replace hb:=X0 hb))<;>(try (exfalso;first|contradiction|omega)))))
         all_goals (try (exfalso;first|contradiction|omega))
         exact ⟨(i+1,l[i].text),⟨by show i+1≤_;omega,hj.symm,hpre2⟩,by show l.length-(i+1)<l.length-i;omega,Xg (by repeat (first|exact Xr|refine Xl rfl ?_)) (List.Sublist.refl _)⟩
       · rw [if_neg h0] at hj
         clear hs
         (repeat' (first|refine Xe ?_|refine Xb ?_|refine Xc ?_|(apply Xn;exact Ybx;exact rfl)|refine Xo ?_|refine Xs ?_|refine Xy rfl ?_|(apply Xh;exact rfl;(apply Xi;(refine Xq Tryz.func18 rfl hvl rfl ?_;rintro _ _ ⟨rfl,rfl⟩)))|(refine Xp rfl (fun hb=>?_) (fun hb=>?_)<;>(repeat (first|replace hb:=Xz hb|replace hb:=X0 hb))<;>(try (exfalso;first|contradiction|omega)))))
         all_goals (try (exfalso;first|contradiction|omega))
         exact ⟨(i+1,(s++[32])++l[i].text),⟨by show i+1≤_;omega,by show (s++[32])++l[i].text=_;rw [hj];simp,hpre2⟩,by show l.length-(i+1)<l.length-i;omega,Xg (by repeat (first|exact Xr|refine Xl rfl ?_)) (List.Sublist.refl _)⟩
 · rw [show i=l.length by omega,List.take_length] at hpre hs
   rw [Xf6 hpre,←hs] at hz
   subst hz
   clear hpre
   (repeat' (first|refine Xe ?_|refine Xb ?_|refine Xc ?_|(apply Xn;exact Yc2;exact rfl)|refine Xw ?_|refine Wm ?_|(refine Xp rfl (fun hb=>?_) (fun hb=>?_)<;>(repeat (first|replace hb:=Xz hb|replace hb:=X0 hb))<;>(try (exfalso;omega)))))
   all_goals (try (exfalso;omega))
   exact ⟨.inr rfl,S8 rfl (.tmp rfl) (.tmp rfl) (List.nil_sublist _) ⟨rfl,rfl⟩⟩
theorem Xln (l:List TokD):FnC Tryz.prog 19 [isl eTok l] [Lab] (fun p loc=>p=Xf9 (Xad l)∧loc=[]):=by
 refine Wp (i:=0) rfl Wu fun ha=>?_
 replace ha:l.length * 40≤140737488355328:=ha.2
 generalize hz:Xad l=z
 unfold Xf9
 refine X3 Tryz.func19 rfl Tryz.ntmps19 rfl fun w0 F0 out=>?_
 (repeat' (first|refine Xe ?_|refine Xb ?_|refine Xc ?_|(apply Xn;exact Yee;exact rfl)|refine Xo ?_|(apply Xh;exact rfl;(apply Xqp;refine Xou rfl rfl rfl ?_;intro _))))
 rename_i b4
 refine Ws (fun x:Nat×List (List UInt8)=>([(4,ex (.slice (some ⟨b4,0,none⟩) l.length l.length)),(10,isl eTok l),(11,exI .i64 (l.length:Int)),(12,exI .i64 (x.1:Int))],[row b4 9 l.length (x.2.map exT),Lab])) (fun x=>x.1≤l.length∧x.2.length=l.length∧x.2.take x.1=(l.take x.1).map word∧ ∀t∈l.take x.1,V0 t=true) (fun x=>l.length-x.1) (0,List.replicate l.length []) ?_ ⟨Nat.zero_le _,by simp,rfl,fun t h=>by cases h⟩ fun x hi=>?_
 · simp only [List.map_replicate]
   exact Xg (by repeat (first|exact Xr|refine Xl rfl ?_)) (List.Sublist.refl _)
 obtain ⟨i,ws⟩:=x
 obtain ⟨hi,hwl,hws,hpre⟩:=hi
 simp only at hi hwl hws hpre ⊢
 by_cases hlt:i<l.length
 · have hvl:=Xfe l[i]
   cases hv:V0 l[i]
   · rw [hv] at hvl
     rw [Xim hlt hv] at hz
     subst hz
     clear hpre hws
     (repeat' (first|refine Xe ?_|refine Xb ?_|refine Xc ?_|(apply Xn;(first|exact Xf rfl|exact Xm rfl|exact Yej|exact Yam|exact Yah|exact Yaz);exact rfl)|refine Xo ?_|refine Xs ?_|refine Xw ?_|refine Xx rfl ?_|(apply Xh;exact rfl;first|(apply Xi;(refine Xq Tryz.func49 rfl hvl rfl ?_;rintro _ _ ⟨rfl,rfl⟩))|(apply Wb;refine X8 ?_;intro _)|(apply Xt;refine Xj (k:=0) (l0:=[]) rfl rfl rfl ?_))|(refine Xp rfl (fun hb=>?_) (fun hb=>?_)<;>(repeat (first|replace hb:=Xz hb|replace hb:=X0 hb))<;>(try (exfalso;omega)))))
     all_goals (try (exfalso;first|contradiction|omega))
     all_goals exact ⟨.inr rfl,S8 rfl (.tmp rfl) (.tmp rfl) (List.nil_sublist _) ⟨rfl,rfl⟩⟩
   · rw [hv] at hvl
     have hpre2:=Xio hlt hpre hv
     have hws2: ∀w,w=word l[i]→(ws.set i w).take (i+1)=(l.take (i+1)).map word:=fun w e=>by
       rw [List.take_succ_eq_append_getElem (by rw [List.length_set];omega),List.take_set_of_le (Nat.le_refl _),List.getElem_set_self,hws,List.take_succ_eq_append_getElem hlt,List.map_append,e];rfl
     clear hpre hws
     by_cases h2:l[i].kind=2
     · obtain ⟨hn1,hn2⟩:=Xf7 hv h2
       have hito:=Xh1 l[i].n.toNat Yan
       rw [hn1,←Xin h2] at hito
       clear hn1
       have hput:=Xh9 exT ws i (word l[i]) Yan
       (repeat' (first|refine Xe ?_|refine Xb ?_|refine Xc ?_|(apply Xn;exact Ycu;exact rfl)|refine Xo ?_|refine Xs ?_|refine Xy rfl ?_|(apply Xh;exact rfl;first|(apply Xi;first|(refine Xq Tryz.func49 rfl hvl rfl ?_;rintro _ _ ⟨rfl,rfl⟩)|(refine Xk (.dup 2 rfl rfl .nil) Tryz.func50 rfl hito rfl ?_;rintro _ _ ⟨rfl,rfl⟩))|(apply Wb;refine X8 ?_;intro _)|(apply Xt;first|refine Xj (k:=0) (l0:=[]) rfl rfl rfl ?_|refine Xj (k:=1) (l0:=[]) rfl rfl rfl ?_))|(refine Xp rfl (fun hb=>?_) (fun hb=>?_)<;>(repeat (first|replace hb:=Xz hb|replace hb:=X0 hb))<;>(try (exfalso;first|contradiction|omega)))))
       all_goals (try (exfalso;first|contradiction|omega))
       simp only [Nat.zero_add,Nat.mul_one,hput]
       exact ⟨(i+1,ws.set i (word l[i])),⟨by show i+1≤_;omega,by rw [List.length_set];exact hwl,hws2 _ rfl,hpre2⟩,by show l.length-(i+1)<l.length-i;omega,Xg (by repeat (first|exact Xr|refine Xl rfl ?_)) (by exact .cons _ (.refl _))⟩
     · rw [Xf8 h2] at hws2
       have hput:=Xh9 exT ws i l[i].text Yan
       (repeat' (first|refine Xe ?_|refine Xb ?_|refine Xc ?_|(apply Xn;exact Ycu;exact rfl)|refine Xo ?_|refine Xs ?_|refine Xy rfl ?_|(apply Xh;exact rfl;first|(apply Xi;(refine Xq Tryz.func49 rfl hvl rfl ?_;rintro _ _ ⟨rfl,rfl⟩))|(apply Wb;refine X8 ?_;intro _)|(apply Xt;first|refine Xj (k:=0) (l0:=[]) rfl rfl rfl ?_|refine Xj (k:=1) (l0:=[]) rfl rfl rfl ?_))|(refine Xp rfl (fun hb=>?_) (fun hb=>?_)<;>(repeat (first|replace hb:=Xz hb|replace hb:=X0 hb))<;>(try (exfalso;first|contradiction|omega)))))
       all_goals (try (exfalso;first|contradiction|omega))
       simp only [Nat.zero_add,Nat.mul_one,hput]
       exact ⟨(i+1,ws.set i l[i].text),⟨by show i+1≤_;omega,by rw [List.length_set];exact hwl,hws2 _ rfl,hpre2⟩,by show l.length-(i+1)<l.length-i;omega,Xg (by repeat (first|exact Xr|refine Xl rfl ?_)) (by exact .cons _ (.refl _))⟩
 · rw [show i=l.length by omega,List.take_length,←hwl,List.take_length] at hws
   rw [show i=l.length by omega,List.take_length] at hpre
   rw [Xf6 hpre] at hz
   subst hz
   have hjl:=words_len hpre
   have hjoin:=Xmu (l.map word) (by rw [List.length_map];omega) Yan
   subst hws
   clear hpre
   have hfl: ∀x:List (List UInt8),x.map exT=x.flatMap strV:=fun x=>by
     induction x with
     | nil=>rfl
     | cons a x ih=>rw [List.map_cons,List.flatMap_cons,ih];rfl
   (repeat' (first|(apply X4 38;refine Wj (k:=0) (E:=eStr) (t:=37) (l.map word) rfl rfl (hfl _) (List.length_map ..) ?_ (htot:=(Nat.mul_one _).symm) (hc:=by simp only [maxLen];omega) (hby:=by show l.length * 16≤_;omega))|refine Xe ?_|refine Xb ?_|refine Xc ?_|(apply Xn;exact Yci;exact rfl)|refine Xw ?_|refine Wm ?_|(apply Xh;exact rfl;(apply Xi;(refine Xq Tryz.func51 rfl hjoin rfl ?_;rintro _ _ ⟨rfl,rfl⟩)))|(refine Xp rfl (fun hb=>?_) (fun hb=>?_)<;>(repeat (first|replace hb:=Xz hb|replace hb:=X0 hb))<;>(try (exfalso;omega)))))
   all_goals (try (exfalso;omega))
   exact ⟨.inr rfl,S8 rfl (.tmp rfl) (.tmp rfl) (List.nil_sublist _) ⟨rfl,rfl⟩⟩
end Go.Proofs.YthdldeenpgeemaaGreatDoor
namespace Go.Sx
open Go.Lx Go.Fr
abbrev wCompetition:List UInt8:=[99,111,109,112,101,116,105,116,105,111,110]
abbrev wCriterion:List UInt8:=[99,114,105,116,101,114,105,111,110]
abbrev wFrom:List UInt8:=[102,114,111,109]
abbrev wTo:List UInt8:=[116,111]
abbrev wStep:List UInt8:=[115,116,101,112]
abbrev wSum:List UInt8:=[115,117,109]
abbrev wMean:List UInt8:=[109,101,97,110]
abbrev wTrim:List UInt8:=[116,114,105,109]
abbrev wMedian:List UInt8:=[109,101,100,105,97,110]
abbrev wReverse:List UInt8:=[114,101,118,101,114,115,101]
abbrev wBonus:List UInt8:=[98,111,110,117,115]
abbrev wValue:List UInt8:=[118,97,108,117,101]
abbrev wMost:List UInt8:=[109,111,115,116]
abbrev wMalus:List UInt8:=[109,97,108,117,115]
abbrev wTie:List UInt8:=[116,105,101]
abbrev wTotal:List UInt8:=[116,111,116,97,108]
abbrev wScore:List UInt8:=[115,99,111,114,101]
abbrev wHighest:List UInt8:=[104,105,103,104,101,115,116]
abbrev wRule:List UInt8:=[114,117,108,101]
abbrev wLot:List UInt8:=[108,111,116]
abbrev wRound:List UInt8:=[114,111,117,110,100]
abbrev wPanel:List UInt8:=[112,97,110,101,108]
abbrev wQuota:List UInt8:=[113,117,111,116,97]
abbrev wOver:List UInt8:=[111,118,101,114]
abbrev wUnder:List UInt8:=[117,110,100,101,114]
abbrev wLots:List UInt8:=[108,111,116,115]
abbrev wFree:List UInt8:=[102,114,101,101]
abbrev wPlaces:List UInt8:=[112,108,97,99,101,115]
abbrev wPrizes:List UInt8:=[112,114,105,122,101,115]
abbrev wPoints:List UInt8:=[112,111,105,110,116,115]
abbrev wBest:List UInt8:=[98,101,115,116]
abbrev wLeast:List UInt8:=[108,101,97,115,116]
abbrev wGreatest:List UInt8:=[103,114,101,97,116,101,115,116]
abbrev wIf:List UInt8:=[105,102]
abbrev wUpto:List UInt8:=[117,112,116,111]
abbrev wThen:List UInt8:=[116,104,101,110]
abbrev wElse:List UInt8:=[101,108,115,101]
abbrev wEnd:List UInt8:=[101,110,100]
abbrev sSemi:List UInt8:=[59]
abbrev sComma:List UInt8:=[44]
abbrev sPlus:List UInt8:=[43]
abbrev sMinus:List UInt8:=[45]
abbrev sStar:List UInt8:=[42]
abbrev sSlash:List UInt8:=[47]
abbrev sOpen:List UInt8:=[40]
abbrev sClose:List UInt8:=[41]
abbrev wordsL:List (List UInt8):=[[99,111,109,112,101,116,105,116,105,111,110],[99,114,105,116,101,114,105,111,110],[102,114,111,109],[116,111],[115,116,101,112],[115,117,109],[109,101,97,110],[116,114,105,109],[109,101,100,105,97,110],[114,101,118,101,114,115,101],[98,111,110,117,115],[118,97,108,117,101],[109,111,115,116],[109,97,108,117,115],[116,105,101],[116,111,116,97,108],[115,99,111,114,101],[104,105,103,104,101,115,116],[114,117,108,101],[108,111,116],[114,111,117,110,100],[112,97,110,101,108],[113,117,111,116,97],[111,118,101,114],[117,110,100,101,114],[108,111,116,115],[102,114,101,101],[112,108,97,99,101,115],[112,114,105,122,101,115],[112,111,105,110,116,115],[98,101,115,116],[108,101,97,115,116],[103,114,101,97,116,101,115,116],[105,102],[117,112,116,111],[116,104,101,110],[101,108,115,101],[101,110,100]]
def Us (s:List UInt8):Bool:=decide (s∈wordsL)
abbrev Res (α:Type):=Except (List TokD) (α×List TokD)
def bnd {α β:Type} (f:List TokD→Res α) (g:α→List TokD→Res β) (ts:List TokD):Res β:=match f ts with
 | .error e=> .error e
 | .ok (x,r)=>g x r
def ret {α:Type} (x:α) (ts:List TokD):Res α:= .ok (x,ts)
def isT (w:List UInt8):List TokD→Bool
 | t::_=>decide (t.kind≠2)&&decide (t.text=w)
 | []=>false
def isName:List TokD→Bool
 | t::_=>decide (t.kind=1)&& !Us t.text
 | []=>false
def isNum:List TokD→Bool
 | t::_=>decide (t.kind=2)
 | []=>false
def want (w:List UInt8) (ts:List TokD):Res Unit:=if isT w ts then .ok ((),ts.tail) else .error ts
def Rs (ts:List TokD):Res (List UInt8):=match ts with
 | t::r=>if isName (t::r) then .ok (t.text,r) else .error (t::r)
 | []=> .error []
def numP (ts:List TokD):Res Int:=match ts with
 | t::r=>if isNum (t::r) then .ok (t.n,r) else .error (t::r)
 | []=> .error []
def Xoe (w:List UInt8) (ts:List TokD):Res Bool:=if isT w ts then bnd (want w) (fun _=>ret true) ts else ret false ts
def S9 (w:List UInt8):List TokD→Res (List UInt8):=bnd (want w) fun _=>Rs
def Si (w:List UInt8):List TokD→Res Int:=bnd (want w) fun _=>numP
def Xam {σ:Type} (test:List TokD→Bool) (item:σ→List TokD→Res σ):Nat→σ→List TokD→Res σ
 | 0,s,ts=> .ok (s,ts)
 | f+1,s,ts=>if test ts then (match item s ts with
   | .error e=> .error e
   | .ok (s',r)=>Xam test item f s' r) else .ok (s,ts)
def Q9 {σ:Type} (test:List TokD→Bool) (item:σ→List TokD→Res σ) (s:σ) (ts:List TokD):Res σ:=Xam test item ts.length s ts
def Tc {α:Type} (item:List TokD→Res α) (l:List α):List TokD→Res (List α):=bnd (want sComma) fun _=>bnd item fun y=>ret (l++[y])
def Qp {α:Type} (item:List TokD→Res α):List TokD→Res (List α):=bnd item fun x=>Q9 (isT sComma) (Tc item) [x]
def Vn {α:Type} (item:List TokD→Res α) (l:List α):List TokD→Res (List α):=bnd item fun x=>bnd (want sSemi) fun _=>ret (l++[x])
def Tn {α:Type} (w:List UInt8) (item:List TokD→Res α):List TokD→Res (List α):=Q9 (isT w) (Vn item) []
def howP (ts:List TokD):Res (Int×Int):=
 if isT wSum ts then bnd (want wSum) (fun _=>ret (1,0)) ts
 else if isT wMean ts then bnd (want wMean) (fun _=>bnd (Si wTrim) fun n=>ret (2,n)) ts
 else bnd (want wMedian) (fun _=>ret (3,0)) ts
def critB:List TokD→Res Crit:=bnd (S9 wCriterion) fun nm=>bnd (Si wFrom) fun lo=>bnd (Si wTo) fun hi=>bnd (Si wStep) fun st=>bnd howP fun h=>bnd (Xoe wReverse) fun rv=>ret ⟨nm,lo,hi,st,h.1,h.2,rv⟩
def Sj (w:List UInt8):List TokD→Res ItemD:=bnd (S9 w) fun nm=>bnd (Si wValue) fun v=>bnd (Si wMost) fun m=>ret ⟨nm,v,m⟩
def keyP (ts:List TokD):Res KeyD:=
 if isT wTotal ts then bnd (S9 wTotal) (fun nm=>ret ⟨1,nm,0⟩) ts
 else if isT wScore ts then bnd (S9 wScore) (fun nm=>ret ⟨2,nm,0⟩) ts
 else if isT wRule ts then bnd (S9 wRule) (fun nm=>ret ⟨5,nm,0⟩) ts
 else if isT wHighest ts then bnd (want wHighest) (fun _=>ret ⟨3,[],0⟩) ts
 else if isT wBonus ts then bnd (want wBonus) (fun _=>ret ⟨4,[],0⟩) ts
 else bnd (want wLot) (fun _=>ret ⟨6,[],0⟩) ts
def tieB:List TokD→Res TieD:=bnd (S9 wTie) fun nm=>bnd (Qp keyP) fun ks=>ret ⟨nm,ks⟩
def zeroHere (ts:List TokD):Bool:=match ts with
 | t::_=>decide (t.kind=2)&&decide (t.n=0)
 | []=>false
def fracP:List TokD→Res (Int×Int):=bnd numP fun n ts=>
 if isT sSlash ts then bnd (want sSlash) (fun _ ts=>if zeroHere ts then .error ts else bnd numP (fun d=>ret (n,d)) ts) ts
 else ret (n,1) ts
def gate {α:Type} (ok:Bool) (f:List TokD→Res α) (ts:List TokD):Res α:=if ok then f ts else .error ts
def addT (ts:List TokD):Bool:=isT sPlus ts||isT sMinus ts
def U7 (tm:List TokD→Res Ex) (x:Ex) (ts:List TokD):Res Ex:=
 if isT sPlus ts then bnd (want sPlus) (fun _=>bnd tm fun y=>ret (.mk 6 [] 0 0 [x,y])) ts
 else bnd (want sMinus) (fun _=>bnd tm fun y=>ret (.mk 7 [] 0 0 [x,y])) ts
def Xaj (tm:List TokD→Res Ex):List TokD→Res Ex:=bnd tm fun x=>Q9 addT (U7 tm) x
def Xa1 (ex:List TokD→Res Ex) (k:Int):List TokD→Res Ex:=bnd (want sOpen) fun _=>bnd ex fun x=>bnd (want sComma) fun _=>bnd ex fun y=>bnd (want sClose) fun _=>ret (.mk k [] 0 0 [x,y])
def Vc (ok:Bool) (ex:List TokD→Res Ex) (ts:List TokD):Res Ex:=
 if isName ts then bnd Rs (fun nm=>ret (.mk 2 nm 0 0 [])) ts
 else if isT wBonus ts then bnd (want wBonus) (fun _=>ret (.mk 3 [] 0 0 [])) ts
 else if isT wMalus ts then bnd (want wMalus) (fun _=>ret (.mk 4 [] 0 0 [])) ts
 else if isT wRound ts then bnd (S9 wRound) (fun nm=>ret (.mk 5 nm 0 0 [])) ts
 else if isT wLeast ts then gate ok (bnd (want wLeast) fun _=>Xa1 ex 9) ts
 else if isT wGreatest ts then gate ok (bnd (want wGreatest) fun _=>Xa1 ex 10) ts
 else if isT wIf ts then gate ok (bnd (want wIf) fun _=>bnd ex fun a=>bnd (want wUpto) fun _=>bnd ex fun b=>bnd (want wThen) fun _=>bnd ex fun c=>bnd (want wElse) fun _=>bnd ex fun d=>bnd (want wEnd) fun _=>ret (.mk 11 [] 0 0 [a,b,c,d])) ts
 else if isT sOpen ts then gate ok (bnd (want sOpen) fun _=>bnd ex fun x=>bnd (want sClose) fun _=>ret x) ts
 else .error ts
def Xes (ok:Bool) (tm ex:List TokD→Res Ex) (ts:List TokD):Res Ex:=
 if isNum ts then bnd fracP (fun q ts=>if isT sStar ts then gate ok (bnd (want sStar) fun _=>bnd tm fun x=>ret (.mk 8 [] q.1 q.2 [x])) ts else ret (.mk 1 [] q.1 q.2 []) ts) ts
 else Vc ok ex ts
def termN:Nat→List TokD→Res Ex
 | 0=>Xes false (fun ts=> .error ts) (fun ts=> .error ts)
 | n+1=>Xes true (termN n) (Xaj (termN n))
def Ty (n:Nat):List TokD→Res Ex:=Xaj (termN n)
def cutP (ts:List TokD):Res Int:=
 if isT wOver ts then bnd (want wOver) (fun _=>ret 1) ts
 else if isT wUnder ts then bnd (want wUnder) (fun _=>ret 2) ts
 else bnd (want wLots) (fun _=>ret 3) ts
def scoreP (ts:List TokD):Res (Bool×Ex):=
 if isT wPlaces ts then bnd (want wPlaces) (fun _=>ret (true,.mk 0 [] 0 0 [])) ts
 else bnd (want wScore) (fun _=>bnd (Ty 16) fun x=>ret (false,x)) ts
def tieRefP (ts:List TokD):Res (List UInt8×Int):=
 if isT wTie ts then bnd (S9 wTie) (fun nm=>ret (nm,0)) ts else ret ([],-1) ts
def roundB:List TokD→Res RoundD:=bnd (S9 wRound) fun nm=>bnd (Si wPanel) fun pn=>bnd (Si wQuota) fun qt=>bnd cutP fun ct=>bnd (Xoe wFree) fun fr=>bnd scoreP fun s=>bnd tieRefP fun t=>ret ⟨nm,pn,qt,ct,s.1,fr,s.2,t.1,t.2⟩
def prizesP (ts:List TokD):Res (List Int):=
 if isT wPrizes ts then bnd (want wPrizes) (fun _=>bnd (Qp numP) fun l=>bnd (want sSemi) fun _=>ret l) ts else ret [] ts
def pointsP (ts:List TokD):Res (List Int×Int):=
 if isT wPoints ts then bnd (want wPoints) (fun _=>bnd (Qp numP) fun l=>bnd (Si wBest) fun b=>bnd (want sSemi) fun _=>ret (l,b)) ts else ret ([],0) ts
def Xpb (ts:List TokD):Res Unit:=if ts=[] then .ok ((),[]) else .error ts
def rulesP:List TokD→Res RulesD:=bnd (S9 wCompetition) fun nm=>bnd (want sSemi) fun _=>bnd (Tn wCriterion critB) fun cs=>bnd (Tn wBonus (Sj wBonus)) fun bs=>bnd (Tn wMalus (Sj wMalus)) fun ms=>bnd (Tn wTie tieB) fun tis=>bnd (Tn wRound roundB) fun rs=>bnd prizesP fun pz=>bnd pointsP fun pt=>bnd Xpb fun _=>ret ⟨nm,cs,bs,ms,tis,rs,pz,pt.1,pt.2⟩
end Go.Sx
namespace Go.Sx
open Go.Lx Go.Fr
structure Lw {α:Type} (Q:TokD→Prop) (f:List TokD→Res α):Prop where
 ok: ∀{ts x r},f ts= .ok (x,r)→ ∃c,ts=c++r∧(∀t∈c,Q t)∧(r≠[]→ ∀z:List TokD,z.head?=r.head?→f (c++z)= .ok (x,z))
 err: ∀{ts e},f ts= .error e→ ∃c,ts=c++e∧(e≠[]→ ∀z:List TokD,z.head?=e.head?→f (c++z)= .error z)
structure Less {α:Type} (f:List TokD→Res α):Prop where
 lt: ∀{ts x r},f ts= .ok (x,r)→r.length<ts.length
def Hd (test:List TokD→Bool):Prop:= ∀a b:List TokD,a.head?=b.head?→test a=test b
variable {α β σ:Type} {Q:TokD→Prop}
theorem Xip {f:List TokD→Res α} {g:α→List TokD→Res β} {ts:List TokD} {y:β} {r:List TokD} (h:bnd f g ts= .ok (y,r)): ∃x u,f ts= .ok (x,u)∧g x u= .ok (y,r):=by
 unfold bnd at h
 cases hf:f ts with
 | error e=>rw [hf] at h;cases h
 | ok q=>obtain ⟨x,u⟩:=q;rw [hf] at h;exact ⟨x,u,rfl,h⟩
theorem Xlo {f:List TokD→Res α} {g:α→List TokD→Res β} {ts:List TokD} {e:List TokD} (h:bnd f g ts= .error e):f ts= .error e∨ ∃x u,f ts= .ok (x,u)∧g x u= .error e:=by
 unfold bnd at h
 cases hf:f ts with
 | error e'=>rw [hf] at h;injection h with h;subst h;exact .inl rfl
 | ok q=>obtain ⟨x,u⟩:=q;rw [hf] at h;exact .inr ⟨x,u,rfl,h⟩
theorem Wg {f:List TokD→Res α} {g:α→List TokD→Res β} {ts u:List TokD} {x:α} (h:f ts= .ok (x,u)):bnd f g ts=g x u:=by unfold bnd;rw [h]
theorem X1 {f:List TokD→Res α} {g:α→List TokD→Res β} {ts e:List TokD} (h:f ts= .error e):bnd f g ts= .error e:=by unfold bnd;rw [h]
theorem Tg {c a b:List TokD} (h:a.head?=b.head?):(c++a).head?=(c++b).head?:=by cases c<;>simp [h]
theorem Xiq {c a:List TokD} (h:a≠[]):c++a≠[]:=by simp [h]
theorem Ut (w:List UInt8):Hd (isT w):=fun a b h=>by
 cases a<;>cases b
 · rfl
 · cases h
 · cases h
 · simp only [List.head?_cons,Option.some.injEq] at h;subst h;simp only [isT]
theorem hd_isName:Hd isName:=fun a b h=>by
 cases a<;>cases b
 · rfl
 · cases h
 · cases h
 · simp only [List.head?_cons,Option.some.injEq] at h;subst h;simp only [isName]
theorem hd_isNum:Hd isNum:=fun a b h=>by
 cases a<;>cases b
 · rfl
 · cases h
 · cases h
 · simp only [List.head?_cons,Option.some.injEq] at h;subst h;simp only [isNum]
theorem hd_zero:Hd zeroHere:=fun a b h=>by
 cases a<;>cases b
 · rfl
 · cases h
 · cases h
 · simp only [List.head?_cons,Option.some.injEq] at h;subst h;simp only [zeroHere]
theorem hd_add:Hd addT:=fun a b h=>by unfold addT;rw [Ut _ a b h,Ut _ a b h]
theorem Vl (x:α):Lw Q (ret x) where
 ok h:=by injection h with h;injection h with h1 h2;subst h1 h2;exact ⟨[],rfl,fun t ht=>by (cases ht),fun _ z _=>rfl⟩
 err h:=by cases h
theorem lw_fail:Lw Q (fun ts=>(.error ts:Res α)) where
 ok h:=by cases h
 err h:=by injection h with h;subst h;exact ⟨[],rfl,fun _ z _=>rfl⟩
theorem Wk {f:List TokD→Res α} {g:α→List TokD→Res β} (hf:Lw Q f) (hg: ∀x,Lw Q (g x)):Lw Q (bnd f g) where
 ok h:=by
   obtain ⟨x,u,h1,h2⟩:=Xip h
   obtain ⟨c1,rfl,q1,l1⟩:=hf.ok h1
   obtain ⟨c2,rfl,q2,l2⟩:=(hg x).ok h2
   refine ⟨c1++c2,by simp,fun t ht=>?_,fun hr z hz=>?_⟩
   · rcases List.mem_append.1 ht with ht|ht
     · exact q1 t ht
     · exact q2 t ht
   · rw [List.append_assoc,Wg (l1 (Xiq hr) _ (Tg hz))]
     exact l2 hr z hz
 err h:=by
   rcases Xlo h with h1|⟨x,u,h1,h2⟩
   · obtain ⟨c,e,l⟩:=hf.err h1
     exact ⟨c,e,fun hr z hz=>X1 (l hr z hz)⟩
   · obtain ⟨c1,rfl,q1,l1⟩:=hf.ok h1
     obtain ⟨c2,rfl,l2⟩:=(hg x).err h2
     refine ⟨c1++c2,by simp,fun hr z hz=>?_⟩
     rw [List.append_assoc,Wg (l1 (Xiq hr) _ (Tg hz))]
     exact l2 hr z hz
theorem Sd {test:List TokD→Bool} {f g:List TokD→Res α} (ht:Hd test) (hf:Lw Q f) (hg:Lw Q g):Lw Q (fun ts=>if test ts then f ts else g ts) where
 ok {ts x r} h:=by
   cases hb:test ts with
   | true=>
     simp only [hb,if_true] at h
     obtain ⟨c,rfl,q,l⟩:=hf.ok h
     refine ⟨c,rfl,q,fun hr z hz=>?_⟩
     have:test (c++z)=true:=(ht _ _ (Tg hz)).trans hb
     simp only [this,if_true]
     exact l hr z hz
   | false=>
     simp only [hb] at h
     obtain ⟨c,rfl,q,l⟩:=hg.ok h
     refine ⟨c,rfl,q,fun hr z hz=>?_⟩
     have:test (c++z)=false:=(ht _ _ (Tg hz)).trans hb
     simp only [this]
     exact l hr z hz
 err {ts e} h:=by
   cases hb:test ts with
   | true=>
     simp only [hb,if_true] at h
     obtain ⟨c,rfl,l⟩:=hf.err h
     refine ⟨c,rfl,fun hr z hz=>?_⟩
     have:test (c++z)=true:=(ht _ _ (Tg hz)).trans hb
     simp only [this,if_true]
     exact l hr z hz
   | false=>
     simp only [hb] at h
     obtain ⟨c,rfl,l⟩:=hg.err h
     refine ⟨c,rfl,fun hr z hz=>?_⟩
     have:test (c++z)=false:=(ht _ _ (Tg hz)).trans hb
     simp only [this]
     exact l hr z hz
theorem R5 {w:List UInt8} {ts:List TokD} (h:isT w ts=true): ∃t r,ts=t::r∧t.kind≠2∧t.text=w:=by
 cases ts with
 | nil=>cases h
 | cons t r=>
   unfold isT at h
   simp only [Bool.and_eq_true,decide_eq_true_eq] at h
   exact ⟨t,r,rfl,h.1,h.2⟩
theorem Xlp {w:List UInt8} {ts r:List TokD} {x:Unit} (h:want w ts= .ok (x,r)): ∃t,ts=t::r∧t.kind≠2∧t.text=w:=by
 unfold want at h
 by_cases hb:isT w ts=true
 · rw [if_pos hb] at h
   obtain ⟨t,r',rfl,h1,h2⟩:=R5 hb
   injection h with h;injection h with _ h;subst h
   exact ⟨t,rfl,h1,h2⟩
 · rw [if_neg hb] at h;cases h
theorem W7 {w:List UInt8} (hQ: ∀t:TokD,t.kind≠2→t.text=w→Q t):Lw Q (want w) where
 ok {ts x r} h:=by
   obtain ⟨t,rfl,h1,h2⟩:=Xlp h
   refine ⟨[t],rfl,fun u hu=>by rw [List.mem_singleton.1 hu];exact hQ t h1 h2,fun _ z _=>?_⟩
   show want w (t::z)=_
   unfold want
   rw [if_pos (by unfold isT;simp [h1,h2])];rfl
 err {ts e} h:=by
   unfold want at h
   by_cases hb:isT w ts=true
   · rw [if_pos hb] at h;cases h
   · rw [if_neg hb] at h
     injection h with h;subst h
     refine ⟨[],rfl,fun _ z hz=>?_⟩
     show want w z=_
     unfold want
     rw [if_neg (by rw [Ut w z ts hz];exact hb)]
theorem Xpc {ts r:List TokD} {x:List UInt8} (h:Rs ts= .ok (x,r)): ∃t,ts=t::r∧t.kind=1∧Us t.text=false∧x=t.text:=by
 cases ts with
 | nil=>cases h
 | cons t u=>
   unfold Rs at h
   simp only at h
   by_cases hb:isName (t::u)=true
   · rw [if_pos hb] at h
     injection h with h;injection h with h1 h2;subst h1 h2
     unfold isName at hb
     simp only [Bool.and_eq_true,decide_eq_true_eq,Bool.not_eq_true'] at hb
     exact ⟨t,rfl,hb.1,hb.2,rfl⟩
   · rw [if_neg hb] at h;cases h
theorem Xhl (hQ: ∀t:TokD,t.kind=1→Us t.text=false→Q t):Lw Q Rs where
 ok {ts x r} h:=by
   obtain ⟨t,rfl,h1,h2,rfl⟩:=Xpc h
   refine ⟨[t],rfl,fun u hu=>by rw [List.mem_singleton.1 hu];exact hQ t h1 h2,fun _ z _=>?_⟩
   show Rs (t::z)=_
   unfold Rs
   simp only
   rw [if_pos (by unfold isName;simp [h1,h2])]
 err {ts e} h:=by
   cases ts with
   | nil=>injection h with h;subst h;exact ⟨[],rfl,fun hr=>absurd rfl hr⟩
   | cons t u=>
     unfold Rs at h
     simp only at h
     by_cases hb:isName (t::u)=true
     · rw [if_pos hb] at h;cases h
     · rw [if_neg hb] at h
       injection h with h;subst h
       refine ⟨[],rfl,fun _ z hz=>?_⟩
       cases z with
       | nil=>cases hz
       | cons v z=>
         simp only [List.head?_cons,Option.some.injEq] at hz;subst hz
         show Rs (v::z)=_
         unfold Rs
         simp only
         rw [if_neg (by rw [hd_isName (v::z) (v::u) rfl];exact hb)]
theorem Xqi {ts r:List TokD} {x:Int} (h:numP ts= .ok (x,r)): ∃t,ts=t::r∧t.kind=2∧x=t.n:=by
 cases ts with
 | nil=>cases h
 | cons t u=>
   unfold numP at h
   simp only at h
   by_cases hb:isNum (t::u)=true
   · rw [if_pos hb] at h
     injection h with h;injection h with h1 h2;subst h1 h2
     unfold isNum at hb
     exact ⟨t,rfl,of_decide_eq_true hb,rfl⟩
   · rw [if_neg hb] at h;cases h
theorem Xcs (hQ: ∀t:TokD,t.kind=2→Q t):Lw Q numP where
 ok {ts x r} h:=by
   obtain ⟨t,rfl,h1,rfl⟩:=Xqi h
   refine ⟨[t],rfl,fun u hu=>by rw [List.mem_singleton.1 hu];exact hQ t h1,fun _ z _=>?_⟩
   show numP (t::z)=_
   unfold numP
   simp only
   rw [if_pos (by unfold isNum;simp [h1])]
 err {ts e} h:=by
   cases ts with
   | nil=>injection h with h;subst h;exact ⟨[],rfl,fun hr=>absurd rfl hr⟩
   | cons t u=>
     unfold numP at h
     simp only at h
     by_cases hb:isNum (t::u)=true
     · rw [if_pos hb] at h;cases h
     · rw [if_neg hb] at h
       injection h with h;subst h
       refine ⟨[],rfl,fun _ z hz=>?_⟩
       cases z with
       | nil=>cases hz
       | cons v z=>
         simp only [List.head?_cons,Option.some.injEq] at hz;subst hz
         show numP (v::z)=_
         unfold numP
         simp only
         rw [if_neg (by rw [hd_isNum (v::z) (v::u) rfl];exact hb)]
theorem Xct {ok:Bool} {f:List TokD→Res α} (h:Lw Q f):Lw Q (gate ok f):=by cases ok;exact lw_fail;exact h
theorem Lw.len {f:List TokD→Res α} (h:Lw Q f) {ts r:List TokD} {x:α} (e:f ts= .ok (x,r)):r.length≤ts.length:=by
 obtain ⟨c,rfl,_⟩:=h.ok e;simp
theorem Xa2 (w:List UInt8):Less (want w):=⟨fun h=>by obtain ⟨t,rfl,_⟩:=Xlp h;simp⟩
theorem Xa3 {f:List TokD→Res α} {g:α→List TokD→Res β} (hf:Less f) (hg: ∀x,Lw Q (g x)):Less (bnd f g):=⟨fun h=>by
 obtain ⟨x,u,h1,h2⟩:=Xip h
 exact Nat.lt_of_le_of_lt ((hg x).len h2) (hf.lt h1)⟩
theorem Xpd {test:List TokD→Bool} {f g:List TokD→Res α} (hf:Less f) (hg:Less g):Less (fun ts=>if test ts then f ts else g ts):=⟨fun {ts x r} h=>by
 cases hb:test ts with
 | true=>simp only [hb,if_true] at h;exact hf.lt h
 | false=>simp only [hb] at h;exact hg.lt h⟩
section
variable {test:List TokD→Bool} {item:σ→List TokD→Res σ}
theorem Xga (h0:test []=false) (hl: ∀s,Less (item s)): ∀(f g:Nat) (s:σ) (ts:List TokD),ts.length≤f→ts.length≤g→Xam test item f s ts=Xam test item g s ts
 | 0,0,_,_,_,_=>rfl
 | 0,g+1,s,ts,h,_=>by
   rw [List.length_eq_zero_iff.1 (Nat.le_zero.1 h),Xam,Xam,if_neg Ycs]
 | f+1,0,s,ts,_,h=>by
   rw [List.length_eq_zero_iff.1 (Nat.le_zero.1 h),Xam,Xam,if_neg Ycs]
 | f+1,g+1,s,ts,hf,hg=>by
   rw [Xam,Xam]
   by_cases hb:test ts=true
   · rw [if_pos hb,if_pos hb]
     cases he:item s ts with
     | error e=>rfl
     | ok q=>
       obtain ⟨s',r⟩:=q
       have:=(hl s).lt he
       exact Xga h0 hl f g s' r Yan Yan
   · rw [if_neg hb,if_neg hb]
theorem T4 (h0:test []=false) (hl: ∀s,Less (item s)) (s:σ) (ts:List TokD):Q9 test item s ts=if test ts then bnd (item s) (Q9 test item) ts else ret s ts:=by
 unfold Q9
 cases ts with
 | nil=>rw [List.length_nil,Xam,if_neg Ycs];rfl
 | cons t ts=>
   rw [List.length_cons,Xam]
   by_cases hb:test (t::ts)=true
   · rw [if_pos hb,if_pos hb]
     unfold bnd
     cases he:item s (t::ts) with
     | error e=>rfl
     | ok q=>
       obtain ⟨s',r⟩:=q
       have:=(hl s).lt he
       rw [List.length_cons] at this
       exact Xga h0 hl _ _ s' r Yan Yan
   · rw [if_neg hb,if_neg hb];rfl
theorem Xlq (h0:test []=false) (ht:Hd test) (hl: ∀s,Less (item s)) (hi: ∀s,Lw Q (item s)) (s:σ):Lw Q (Q9 test item s):=by
 have key: ∀(n:Nat) (s:σ) (ts:List TokD),ts.length≤n→(∀{x r},Q9 test item s ts= .ok (x,r)→ ∃c,ts=c++r∧(∀t∈c,Q t)∧(r≠[]→ ∀z:List TokD,z.head?=r.head?→Q9 test item s (c++z)= .ok (x,z)))∧(∀{e},Q9 test item s ts= .error e→ ∃c,ts=c++e∧(e≠[]→ ∀z:List TokD,z.head?=e.head?→Q9 test item s (c++z)= .error z)):=by
   intro n
   induction n with
   | zero=>
     intro s ts hn
     rw [List.length_eq_zero_iff.1 (Nat.le_zero.1 hn),T4 h0 hl,if_neg Ycs]
     refine ⟨fun h=>?_,fun h=>by cases h⟩
     injection h with h;injection h with h1 h2;subst h1 h2
     exact ⟨[],rfl,fun t ht=>by (cases ht),fun hr=>absurd rfl hr⟩
   | succ n ih=>
     intro s ts hn
     cases hb:test ts with
     | false=>
       rw [T4 h0 hl,if_neg (by rw [hb];simp)]
       refine ⟨fun h=>?_,fun h=>by cases h⟩
       injection h with h;injection h with h1 h2;subst h1 h2
       refine ⟨[],rfl,fun t ht=>by (cases ht),fun hr z hz=>?_⟩
       show Q9 test item s z=_
       rw [T4 h0 hl,if_neg (by rw [ht z ts hz,hb];simp)];rfl
     | true=>
       rw [T4 h0 hl,if_pos hb]
       refine ⟨fun h=>?_,fun h=>?_⟩
       · obtain ⟨x1,u,h1,h2⟩:=Xip h
         have hlt:=(hl s).lt h1
         obtain ⟨c1,rfl,q1,l1⟩:=(hi s).ok h1
         obtain ⟨c2,rfl,q2,l2⟩:=(ih x1 u Yan).1 h2
         refine ⟨c1++c2,by simp,fun t ht=>?_,fun hr z hz=>?_⟩
         · rcases List.mem_append.1 ht with ht|ht
           · exact q1 t ht
           · exact q2 t ht
         · have hb2:test (c1++(c2++z))=true:=(ht _ _ (Tg (Tg hz))).trans hb
           rw [List.append_assoc,T4 h0 hl,if_pos hb2,Wg (l1 (Xiq hr) _ (Tg hz))]
           exact l2 hr z hz
       · rcases Xlo h with h1|⟨x1,u,h1,h2⟩
         · obtain ⟨c,rfl,l⟩:=(hi s).err h1
           refine ⟨c,rfl,fun hr z hz=>?_⟩
           have hb2:test (c++z)=true:=(ht _ _ (Tg hz)).trans hb
           rw [T4 h0 hl,if_pos hb2]
           exact X1 (l hr z hz)
         · have hlt:=(hl s).lt h1
           obtain ⟨c1,rfl,q1,l1⟩:=(hi s).ok h1
           obtain ⟨c2,rfl,l2⟩:=(ih x1 u Yan).2 h2
           refine ⟨c1++c2,by simp,fun hr z hz=>?_⟩
           have hb2:test (c1++(c2++z))=true:=(ht _ _ (Tg (Tg hz))).trans hb
           rw [List.append_assoc,T4 h0 hl,if_pos hb2,Wg (l1 (Xiq hr) _ (Tg hz))]
           exact l2 hr z hz
 exact ⟨fun h=>(key _ s _ (Nat.le_refl _)).1 h,fun h=>(key _ s _ (Nat.le_refl _)).2 h⟩
end
end Go.Sx
namespace Go.Sx
open Go.Lx Go.Fr
def QW (Q:TokD→Prop) (w:List UInt8):Prop:= ∀t:TokD,t.kind≠2→t.text=w→Q t
def QN (Q:TokD→Prop):Prop:= ∀t:TokD,t.kind=1→Us t.text=false→Q t
def QM (Q:TokD→Prop):Prop:= ∀t:TokD,t.kind=2→Q t
variable {α:Type} {Q:TokD→Prop}
theorem Tq {w:List UInt8} (h:QW Q w) (n:QN Q):Lw Q (S9 w):=Wk (W7 h) fun _=>Xhl n
theorem V5 {w:List UInt8} (h:QW Q w) (m:QM Q):Lw Q (Si w):=Wk (W7 h) fun _=>Xcs m
theorem Xet {w:List UInt8} (h:QW Q w):Lw Q (Xoe w):=Sd (Ut w) (Wk (W7 h) fun _=>Vl _) (Vl _)
theorem Xaa (w:List UInt8):Less (S9 w):=Xa3 (Q:=fun _=>True) (Xa2 w) fun _=>Xhl fun _ _ _=>trivial
theorem Xnk {item:List TokD→Res α} (h:QW Q sComma) (hi:Lw Q item) (l:List α):Lw Q (Tc item l):=Wk (W7 h) fun _=>Wk hi fun _=>Vl _
theorem Th {item:List TokD→Res α} (hi:Lw Q item) (l:List α):Less (Tc item l):=Xa3 (Xa2 _) fun _=>Wk hi fun _=>Vl _
theorem Xeu {item:List TokD→Res α} (h:QW Q sComma) (hi:Lw Q item):Lw Q (Qp item):=Wk hi fun _=>Xlq rfl (Ut _) (Th hi) (Xnk h hi) _
theorem Xhm {item:List TokD→Res α} (h:QW Q sSemi) (hi:Lw Q item) (l:List α):Lw Q (Vn item l):=Wk hi fun _=>Wk (W7 h) fun _=>Vl _
theorem W9 {item:List TokD→Res α} (hi:Less item) (l:List α):Less (Vn item l):=Xa3 (Q:=fun _=>True) hi fun _=>Wk (W7 fun _ _ _=>trivial) fun _=>Vl _
theorem Qq {item:List TokD→Res α} (w:List UInt8) (h:QW Q sSemi) (hi:Lw Q item) (hl:Less item):Lw Q (Tn w item):=Xlq rfl (Ut w) (W9 hl) (Xhm h hi) _
theorem Xof (m:QM Q) (h: ∀w∈[wSum,wMean,wTrim,wMedian],QW Q w):Lw Q howP:=
 Sd (Ut _) (Wk (W7 (h _ Yao)) fun _=>Vl _) (Sd (Ut _) (Wk (W7 (h _ Yao)) fun _=>Wk (V5 (h _ Yao) m) fun _=>Vl _) (Wk (W7 (h _ Yao)) fun _=>Vl _))
theorem Xhn (n:QN Q) (m:QM Q) (h: ∀w∈[wCriterion,wFrom,wTo,wStep,wReverse,wSum,wMean,wTrim,wMedian],QW Q w):Lw Q critB:=
 Wk (Tq (h _ Yao) n) fun _=>Wk (V5 (h _ Yao) m) fun _=>Wk (V5 (h _ Yao) m) fun _=>Wk (V5 (h _ Yao) m) fun _=>Wk (Xof m fun w hw=>h w (List.mem_of_mem_drop (i:=5) hw)) fun _=>Wk (Xet (h _ Yao)) fun _=>Vl _
theorem less_crit:Less critB:=Xa3 (Q:=fun _=>True) (Xaa _) fun _=>Wk (V5 (fun _ _ _=>trivial) fun _ _=>trivial) fun _=>Wk (V5 (fun _ _ _=>trivial) fun _ _=>trivial) fun _=>Wk (V5 (fun _ _ _=>trivial) fun _ _=>trivial) fun _=>Wk (Xof (fun _ _=>trivial) fun _ _ _ _ _=>trivial) fun _=>Wk (Xet fun _ _ _=>trivial) fun _=>Vl _
theorem Xev {w:List UInt8} (n:QN Q) (m:QM Q) (h: ∀v∈[w,wValue,wMost],QW Q v):Lw Q (Sj w):=
 Wk (Tq (h _ Yb9) n) fun _=>Wk (V5 (h _ Yb9) m) fun _=>Wk (V5 (h _ Yb9) m) fun _=>Vl _
theorem To (w:List UInt8):Less (Sj w):=Xa3 (Q:=fun _=>True) (Xaa _) fun _=>Wk (V5 (fun _ _ _=>trivial) fun _ _=>trivial) fun _=>Wk (V5 (fun _ _ _=>trivial) fun _ _=>trivial) fun _=>Vl _
theorem Xir (n:QN Q) (h: ∀w∈[wTotal,wScore,wRule,wHighest,wBonus,wLot],QW Q w):Lw Q keyP:=
 Sd (Ut _) (Wk (Tq (h _ Yao) n) fun _=>Vl _) (Sd (Ut _) (Wk (Tq (h _ Yao) n) fun _=>Vl _) (Sd (Ut _) (Wk (Tq (h _ Yao) n) fun _=>Vl _) (Sd (Ut _) (Wk (W7 (h _ Yao)) fun _=>Vl _) (Sd (Ut _) (Wk (W7 (h _ Yao)) fun _=>Vl _) (Wk (W7 (h _ Yao)) fun _=>Vl _)))))
theorem Xlr (n:QN Q) (hc:QW Q sComma) (ht:QW Q wTie) (h: ∀w∈[wTotal,wScore,wRule,wHighest,wBonus,wLot],QW Q w):Lw Q tieB:=
 Wk (Tq ht n) fun _=>Wk (Xeu hc (Xir n h)) fun _=>Vl _
theorem less_tie:Less tieB:=Xa3 (Q:=fun _=>True) (Xaa _) fun _=>Wk (Xeu (fun _ _ _=>trivial) (Xir (fun _ _ _=>trivial) fun _ _ _ _ _=>trivial)) fun _=>Vl _
theorem Xpe (m:QM Q) (h:QW Q sSlash):Lw Q fracP:=
 Wk (Xcs m) fun _=>Sd (Ut _) (Wk (W7 h) fun _=>Sd hd_zero lw_fail (Wk (Xcs m) fun _=>Vl _)) (Vl _)
section
variable {tm ex:List TokD→Res Ex}
theorem Xjv (p:QW Q sPlus) (m:QW Q sMinus) (ht:Lw Q tm) (x:Ex):Lw Q (U7 tm x):=Sd (Ut _) (Wk (W7 p) fun _=>Wk ht fun _=>Vl _) (Wk (W7 m) fun _=>Wk ht fun _=>Vl _)
theorem Ug (ht:Lw Q tm) (x:Ex):Less (U7 tm x):=Xpd (Xa3 (Xa2 _) fun _=>Wk ht fun _=>Vl _) (Xa3 (Xa2 _) fun _=>Wk ht fun _=>Vl _)
theorem Xgb (p:QW Q sPlus) (m:QW Q sMinus) (ht:Lw Q tm):Lw Q (Xaj tm):=Wk ht fun _=>Xlq rfl hd_add (Ug ht) (Xjv p m ht) _
theorem Xpf (h: ∀w∈[sOpen,sComma,sClose],QW Q w) (hx:Lw Q ex) (k:Int):Lw Q (Xa1 ex k):=Wk (W7 (h _ Yao)) fun _=>Wk hx fun _=>Wk (W7 (h _ Yao)) fun _=>Wk hx fun _=>Wk (W7 (h _ Yao)) fun _=>Vl _
abbrev factorW:List (List UInt8):=[wBonus,wMalus,wRound,wLeast,wGreatest,wIf,wUpto,wThen,wElse,wEnd,sOpen,sComma,sClose]
theorem Xls {ok:Bool} (n:QN Q) (h: ∀w∈factorW,QW Q w) (hx:Lw Q ex):Lw Q (Vc ok ex):=
 have hp:=fun k=>Xpf (Q:=Q) (fun w hw=>h w (List.mem_of_mem_drop (i:=10) hw)) hx k
 Sd hd_isName (Wk (Xhl n) fun _=>Vl _) (Sd (Ut _) (Wk (W7 (h _ Yao)) fun _=>Vl _) (Sd (Ut _) (Wk (W7 (h _ Yao)) fun _=>Vl _) (Sd (Ut _) (Wk (Tq (h _ Yao) n) fun _=>Vl _)
   (Sd (Ut _) (Xct (Wk (W7 (h _ Yao)) fun _=>hp 9)) (Sd (Ut _) (Xct (Wk (W7 (h _ Yao)) fun _=>hp 10))
   (Sd (Ut _) (Xct (Wk (W7 (h _ Yao)) fun _=>Wk hx fun _=>Wk (W7 (h _ Yao)) fun _=>Wk hx fun _=>Wk (W7 (h _ Yao)) fun _=>Wk hx fun _=>Wk (W7 (h _ Yao)) fun _=>Wk hx fun _=>Wk (W7 (h _ Yao)) fun _=>Vl _))
   (Sd (Ut _) (Xct (Wk (W7 (h _ Yao)) fun _=>Wk hx fun _=>Wk (W7 (h _ Yao)) fun _=>Vl _)) lw_fail)))))))
theorem Xlt {ok:Bool} (n:QN Q) (m:QM Q) (h: ∀w∈sSlash::sStar::factorW,QW Q w) (ht:Lw Q tm) (hx:Lw Q ex):Lw Q (Xes ok tm ex):=
 Sd hd_isNum (Wk (Xpe m (h _ Yao)) fun _=>Sd (Ut _) (Xct (Wk (W7 (h _ Yao)) fun _=>Wk ht fun _=>Vl _)) (Vl _)) (Xls n (fun w hw=>h w (List.mem_of_mem_drop (i:=2) hw)) hx)
end
abbrev exprW:List (List UInt8):=sPlus::sMinus::sSlash::sStar::factorW
theorem Xb7 (n:QN Q) (m:QM Q) (h: ∀w∈exprW,QW Q w): ∀k,Lw Q (termN k)
 | 0=>Xlt n m (fun w hw=>h w (List.mem_of_mem_drop (i:=2) hw)) lw_fail lw_fail
 | k+1=>Xlt n m (fun w hw=>h w (List.mem_of_mem_drop (i:=2) hw)) (Xb7 n m h k) (Xgb (h _ Yao) (h _ Yao) (Xb7 n m h k))
theorem Re (k:Nat):Lw (fun _=>True) (termN k):=Xb7 (fun _ _ _=>trivial) (fun _ _=>trivial) (fun _ _ _ _ _=>trivial) k
theorem Xis (n:QN Q) (m:QM Q) (h: ∀w∈exprW,QW Q w) (k:Nat):Lw Q (Ty k):=Xgb (h _ Yao) (h _ Yao) (Xb7 n m h k)
theorem Xb8 (k:Nat):Lw (fun _=>True) (Ty k):=Xis (fun _ _ _=>trivial) (fun _ _=>trivial) (fun _ _ _ _ _=>trivial) k
abbrev roundW:List (List UInt8):=[wRound,wPanel,wQuota,wOver,wUnder,wLots,wFree,wPlaces,wScore,wTie]
theorem Xlu (h: ∀w∈[wOver,wUnder,wLots],QW Q w):Lw Q cutP:=Sd (Ut _) (Wk (W7 (h _ Yao)) fun _=>Vl _) (Sd (Ut _) (Wk (W7 (h _ Yao)) fun _=>Vl _) (Wk (W7 (h _ Yao)) fun _=>Vl _))
theorem Xit (n:QN Q) (m:QM Q) (hp:QW Q wPlaces) (hs:QW Q wScore) (h: ∀w∈exprW,QW Q w):Lw Q scoreP:=Sd (Ut _) (Wk (W7 hp) fun _=>Vl _) (Wk (W7 hs) fun _=>Wk (Xis n m h 16) fun _=>Vl _)
theorem Xgc (n:QN Q) (h:QW Q wTie):Lw Q tieRefP:=Sd (Ut _) (Wk (Tq h n) fun _=>Vl _) (Vl _)
theorem Xnl (n:QN Q) (m:QM Q) (h: ∀w∈roundW,QW Q w) (hx: ∀w∈exprW,QW Q w):Lw Q roundB:=
 Wk (Tq (h _ Yao) n) fun _=>Wk (V5 (h _ Yao) m) fun _=>Wk (V5 (h _ Yao) m) fun _=>Wk (Xlu fun w hw=>h w (List.mem_of_mem_drop (i:=3) (List.mem_of_mem_take (i:=3) hw))) fun _=>Wk (Xet (h _ Yao)) fun _=>Wk (Xit n m (h _ Yao) (h _ Yao) hx) fun _=>Wk (Xgc n (h _ Yao)) fun _=>Vl _
theorem lw_roundT:Lw (fun _=>True) roundB:=Xnl (fun _ _ _=>trivial) (fun _ _=>trivial) (fun _ _ _ _ _=>trivial) (fun _ _ _ _ _=>trivial)
theorem less_round:Less roundB:=Xa3 (Q:=fun _=>True) (Xaa _) fun _=>Wk (V5 (fun _ _ _=>trivial) fun _ _=>trivial) fun _=>Wk (V5 (fun _ _ _=>trivial) fun _ _=>trivial) fun _=>Wk (Xlu fun _ _ _ _ _=>trivial) fun _=>Wk (Xet fun _ _ _=>trivial) fun _=>Wk (Xit (fun _ _ _=>trivial) (fun _ _=>trivial) (fun _ _ _=>trivial) (fun _ _ _=>trivial) fun _ _ _ _ _=>trivial) fun _=>Wk (Xgc (fun _ _ _=>trivial) fun _ _ _=>trivial) fun _=>Vl _
theorem Xlv (m:QM Q) (h: ∀w∈[wPrizes,sComma,sSemi],QW Q w):Lw Q prizesP:=Sd (Ut _) (Wk (W7 (h _ Yao)) fun _=>Wk (Xeu (h _ Yao) (Xcs m)) fun _=>Wk (W7 (h _ Yao)) fun _=>Vl _) (Vl _)
theorem Xlw (m:QM Q) (h: ∀w∈[wPoints,wBest,sComma,sSemi],QW Q w):Lw Q pointsP:=Sd (Ut _) (Wk (W7 (h _ Yao)) fun _=>Wk (Xeu (h _ Yao) (Xcs m)) fun _=>Wk (V5 (h _ Yao) m) fun _=>Wk (W7 (h _ Yao)) fun _=>Vl _) (Vl _)
end Go.Sx
namespace Go.Sx
open Go.Lx Go.Fr
variable {α β σ:Type} {Q:TokD→Prop}
abbrev TT:TokD→Prop:=fun _=>True
structure Dp (f g:List TokD→Res α):Prop where
 into: ∀{ts x r},f ts= .ok (x,r)→g ts= .ok (x,r)∨ ∃e,g ts= .error e∧r.length<e.length
theorem Ss (w:List UInt8):QW TT w:=fun _ _ _=>trivial
section
variable {tm tm' ex ex':List TokD→Res Ex}
end
def Inert (z:List TokD):Prop:=isT sPlus z=false∧isT sMinus z=false∧isT sSlash z=false∧isT sStar z=false
structure Fol (f:List TokD→Res α):Prop where
 into: ∀{c x r},f (c++r)= .ok (x,r)→Inert r→ ∀z,Inert z→f (c++z)= .ok (x,z)
theorem Xlx (z:List TokD) (h:Inert z):addT z=false:=by unfold addT;rw [h.1,h.2.1];rfl
section
variable {tm ex:List TokD→Res Ex}
theorem Xrl (w:List UInt8) (y:β):Lw TT (bnd (want w) fun _=>ret y):=Wk (W7 (Ss _)) fun _=>Vl _
end
end Go.Sx
namespace Go.Sx
open Go.Lx Go.Fr
variable {α β σ:Type} {Q:TokD→Prop}
structure Pres (h:TokD→TokD):Prop where
 kind: ∀t,(h t).kind=t.kind
 text: ∀t,(h t).text=t.text
 n: ∀t,(h t).n=t.n
def mapR (h:TokD→TokD):Res α→Res α
 | .ok (x,r)=> .ok (x,r.map h)
 | .error e=> .error (e.map h)
structure Bl (f:List TokD→Res α):Prop where
 eq: ∀{h:TokD→TokD},Pres h→ ∀ts,f (ts.map h)=mapR h (f ts)
section
variable {tm ex:List TokD→Res Ex}
end
def placed:Nat→List TokD→List TokD
 | _,[]=>[]
 | p,t::l=>⟨t.kind,t.text,t.n,p⟩::placed (p+(word t).length+1) l
def bare (t:TokD):TokD:=⟨t.kind,t.text,t.n,0⟩
def off (l:List TokD) (j:Nat):Nat:=((l.take j).map fun t=>(word t).length+1).sum
def Xcu (en:Nat) (e:List TokD):Int:=match e with
 | t::_=>t.at_
 | []=>en
def zeroR:RulesD:=⟨[],[],[],[],[],[],[],[],0⟩
def Qr (l:List TokD) (en:Nat):RulesD×Int×Int:=match rulesP l with
 | .ok (r,_)=>(r,0,0)
 | .error e=>(zeroR,Xcu en e,130)
def Tl (s:List UInt8):RulesD×Int×Int:=if 65536<s.length then (zeroR,0,2) else match T7 0 s with
 | .error p=>(zeroR,p,30)
 | .ok l=>Qr l s.length
end Go.Sx
