/- Chapter 13, the specification's writer: words, signs, numbers, lists. -/
import Derived.Test.YthdldeenpgeemaaGreatDoorPart9
import Derived.Test.YthdldeenpgeemaaGreatDoorPart5
import Derived.Test.YthdldeenpgeemaaGreatDoorPartI
import Derived.Test.YthdldeenpgeemaaGreatDoorPartB
import Derived.Test.YthdldeenpgeemaaGreatDoorPartA
set_option maxHeartbeats 8000000
set_option maxRecDepth 100000
namespace Go.Sx
open Go.Lx Go.Fr
def Xgq {α:Type} (g:α→List TokD):List α→List TokD
 | []=>[]
 | x::l=>g x++l.flatMap fun y=>tkS sComma::g y
theorem Xm9 {α:Type} (g:α→List TokD) (l:List α) (x:α):Xgq g (l++[x])=Xgq g l++((if l.length=0 then [] else [tkS sComma])++g x):=by
 cases l with
 | nil=>simp [Xgq]
 | cons y l=>simp [Xgq]
theorem Q5 {α:Type} (g:α→List TokD) (l:List α) {i:Nat} (h:i<l.length):Xgq g (l.take (i+1))=Xgq g (l.take i)++((if i=0 then [] else [tkS sComma])++g l[i]):=by
 rw [List.take_add_one,List.getElem?_eq_getElem h,Option.toList_some,Xm9,List.length_take,Nat.min_eq_left Yan]
theorem Xky (l:List Int):commaT l=Xgq (fun n=>[tkN n]) l:=by cases l<;>rfl
theorem Xna (l:List KeyD):keysT l=Xgq Rr l:=by cases l<;>rfl
theorem wfm_take {α:Type} (g:α→List TokD) (l:List α) {i:Nat} (h:i<l.length):(l.take (i+1)).flatMap g=(l.take i).flatMap g++g l[i]:=by
 rw [List.take_add_one,List.getElem?_eq_getElem h,Option.toList_some,List.flatMap_append,List.flatMap_cons,List.flatMap_nil,List.append_nil]
theorem Xn9 {α:Type} (g:α→List TokD) (l:List α) (i:Nat):(Xgq g (l.take i)).length≤(Xgq g l).length:=by
 cases l with
 | nil=>simp
 | cons x l=>
   cases i with
   | zero=>simp [Xgq]
   | succ i=>
     rw [List.take_succ_cons]
     unfold Xgq
     have h: ∀(m:List α) (i:Nat),((m.take i).flatMap fun y=>tkS sComma::g y).length≤(m.flatMap fun y=>tkS sComma::g y).length:=fun m i=>by
       conv=>rhs;rw [←List.take_append_drop i m]
       rw [List.flatMap_append,List.length_append];omega
     have:=h l i
     simp only [List.length_append];omega
end Go.Sx
namespace Go.Fr
open Go.RowKit Go.Kx Go.Lx Go.Sx
def wv (v:Value) (l:List TokD):Ent:=vec v 40 4 l.length (l.flatMap Qa)
abbrev Xfa (l:List TokD):SP→List Ent→Prop:=fun q loc=> ∃v,q=ex v∧loc=[wv v l]
end Go.Fr
namespace Go.Proofs.YthdldeenpgeemaaGreatDoor
open Go Go.RowKit Go.Kx Go.Fr Go.Lx Go.Sx
theorem U0 (v:Value) (l:List TokD) (s:List UInt8) (h:l.length+1≤70000):FnC Tryz.prog 123 [ex v,exT s] [wv v l] (Xfa (l++[tkW s])):=by
 refine X3 Tryz.func123 rfl Tryz.ntmps123 rfl fun w0 F0 out=>?_
 unfold Xfa wv
 (repeat' (first|refine Xe ?_|refine Xb ?_|refine Xc ?_|(apply Xn;exact Ydk;exact rfl)|refine Xw ?_|(apply Xh;exact rfl;first|(apply Ve;((refine Vb (k:=1) (l0:=[]) rfl rfl Yby rfl ?_));intro _)|(apply X5;(refine X6 rfl rfl ?_);intro _))))
 (refine ⟨.inr rfl,Vd rfl (.tmp rfl) ?_ ⟨_,rfl,rfl⟩⟩;simp only [List.length_append,List.flatMap_append,List.length_cons,List.length_nil,List.flatMap_cons,List.flatMap_nil,List.append_nil,Nat.zero_add];first|exact .refl _|exact .cons _ (.refl _)|exact .cons _ (.cons _ (.refl _)))
theorem Ul (v:Value) (l:List TokD) (s:List UInt8) (h:l.length+1≤70000):FnC Tryz.prog 116 [ex v,exT s] [wv v l] (Xfa (l++[tkS s])):=by
 refine X3 Tryz.func116 rfl Tryz.ntmps116 rfl fun w0 F0 out=>?_
 unfold Xfa wv
 (repeat' (first|refine Xe ?_|refine Xb ?_|refine Xc ?_|(apply Xn;exact Ydk;exact rfl)|refine Xw ?_|(apply Xh;exact rfl;first|(apply Ve;((refine Vb (k:=1) (l0:=[]) rfl rfl Yby rfl ?_));intro _)|(apply X5;(refine X6 rfl rfl ?_);intro _))))
 (refine ⟨.inr rfl,Vd rfl (.tmp rfl) ?_ ⟨_,rfl,rfl⟩⟩;simp only [List.length_append,List.flatMap_append,List.length_cons,List.length_nil,List.flatMap_cons,List.flatMap_nil,List.append_nil,Nat.zero_add];first|exact .refl _|exact .cons _ (.refl _)|exact .cons _ (.cons _ (.refl _)))
theorem Ql (v:Value) (l:List TokD) (n:Int) (h:l.length+1≤70000):FnC Tryz.prog 171 [ex v,exI .i64 n] [wv v l] (Xfa (l++[tkN n])):=by
 refine X3 Tryz.func171 rfl Tryz.ntmps171 rfl fun w0 F0 out=>?_
 unfold Xfa wv
 (repeat' (first|refine Xe ?_|refine Xb ?_|refine Xc ?_|(apply Xn;exact Ydk;exact rfl)|refine Xw ?_|(apply Xh;exact rfl;first|(apply Ve;((refine Vb (k:=1) (l0:=[]) rfl rfl Yby rfl ?_));intro _)|(apply X5;(refine X6 rfl rfl ?_);intro _))))
 (refine ⟨.inr rfl,Vd rfl (.tmp rfl) ?_ ⟨_,rfl,rfl⟩⟩;simp only [List.length_append,List.flatMap_append,List.length_cons,List.length_nil,List.flatMap_cons,List.flatMap_nil,List.append_nil,Nat.zero_add];first|exact .refl _|exact .cons _ (.refl _)|exact .cons _ (.cons _ (.refl _)))
theorem Ri (v:Value) (l:List TokD) (s t:List UInt8) (h:l.length+2≤70000):FnC Tryz.prog 117 [ex v,exT s,exT t] [wv v l] (Xfa (l++[tkW s,tkW t])):=by
 refine X3 Tryz.func117 rfl Tryz.ntmps117 rfl fun w0 F0 out=>?_
 (repeat' (first|refine Xe ?_|refine Xb ?_|refine Xc ?_|(apply Xn;exact Yba;exact rfl)|refine Xw ?_|(apply Xh;exact rfl;(apply Xi;(refine Xk (.one 0 rfl .nil) Tryz.func123 rfl (U0 _ _ _ (by first|omega|(simp only [List.length_append,List.length_cons,List.length_nil];omega))) rfl ?_;rintro _ _ ⟨v1,rfl,rfl⟩)))))
 (refine ⟨.inr rfl,Vd rfl (.tmp rfl) ?_ ⟨_,rfl,rfl⟩⟩;simp only [List.append_assoc,List.cons_append,List.nil_append];first|exact .refl _|exact .cons _ (.refl _))
theorem Sp (v:Value) (l:List TokD) (s:List UInt8) (n:Int) (h:l.length+2≤70000):FnC Tryz.prog 124 [ex v,exT s,exI .i64 n] [wv v l] (Xfa (l++[tkW s,tkN n])):=by
 refine X3 Tryz.func124 rfl Tryz.ntmps124 rfl fun w0 F0 out=>?_
 (repeat' (first|refine Xe ?_|refine Xb ?_|refine Xc ?_|(apply Xn;exact Yba;exact rfl)|refine Xw ?_|(apply Xh;exact rfl;(apply Xi;first|(refine Xk (.one 0 rfl .nil) Tryz.func123 rfl (U0 _ _ _ Yan) rfl ?_;rintro _ _ ⟨v1,rfl,rfl⟩)|(refine Xk (.one 0 rfl .nil) Tryz.func171 rfl (Ql _ _ _ Yaf) rfl ?_;rintro _ _ ⟨v1,rfl,rfl⟩)))))
 (refine ⟨.inr rfl,Vd rfl (.tmp rfl) ?_ ⟨_,rfl,rfl⟩⟩;simp only [List.append_assoc,List.cons_append,List.nil_append];first|exact .refl _|exact .cons _ (.refl _))
theorem Xah (v:Value) (l:List TokD) (n d:Int) (h:l.length+(Xcg n d).length≤70000):FnC Tryz.prog 196 [ex v,exI .i64 n,exI .i64 d] [wv v l] (Xfa (l++Xcg n d)):=by
 refine X3 Tryz.func196 rfl Tryz.ntmps196 rfl fun w0 F0 out=>?_
 unfold Xcg at h ⊢
 by_cases hd:d=1
 · rw [if_pos hd] at h ⊢
   simp only [List.length_cons,List.length_nil] at h
   (repeat' (first|refine Xe ?_|refine Xb ?_|refine Xc ?_|(apply Xn;(first|exact Xf rfl|exact Xm rfl|exact Ybo);exact rfl)|refine Xs ?_|refine Xw ?_|(apply Xh;exact rfl;(apply Xi;(refine Xk (.one 0 rfl .nil) Tryz.func171 rfl (Ql _ _ _ Yan) rfl ?_;rintro _ _ ⟨v1,rfl,rfl⟩)))|(refine Xp rfl (fun hb=>?_) (fun hb=>?_)<;>(repeat (first|replace hb:=Xz hb|replace hb:=X0 hb|replace hb:=W5 hb|replace hb:=W6 hb))<;>(try (exfalso;contradiction)))))
   all_goals (try (exfalso;first|contradiction|omega))
   (refine ⟨.inr rfl,Vd rfl (.tmp rfl) ?_ ⟨_,rfl,rfl⟩⟩;simp only [List.append_assoc,List.cons_append,List.nil_append];first|exact .refl _|exact .cons _ (.refl _))
 · rw [if_neg hd] at h ⊢
   simp only [List.length_cons,List.length_nil] at h
   (repeat' (first|refine Xe ?_|refine Xb ?_|refine Xc ?_|(apply Xn;(first|exact Xf rfl|exact Xm rfl|exact Ybo);exact rfl)|refine Xw ?_|(apply Xh;exact rfl;(apply Xi;first|(refine Xk (.one 0 rfl .nil) Tryz.func116 rfl (Ul _ _ _ Yaf) rfl ?_;rintro _ _ ⟨v1,rfl,rfl⟩)|(refine Xk (.one 0 rfl .nil) Tryz.func171 rfl (Ql _ _ _ (by first|omega|(simp only [List.length_append,List.length_cons,List.length_nil];omega))) rfl ?_;rintro _ _ ⟨v1,rfl,rfl⟩)))|(refine Xp rfl (fun hb=>?_) (fun hb=>?_)<;>(repeat (first|replace hb:=Xz hb|replace hb:=X0 hb|replace hb:=W5 hb|replace hb:=W6 hb))<;>(try (exfalso;contradiction)))))
   all_goals (try (exfalso;first|contradiction|omega))
   (refine ⟨.inr rfl,Vd rfl (.tmp rfl) ?_ ⟨_,rfl,rfl⟩⟩;simp only [List.append_assoc,List.cons_append,List.nil_append];first|exact .refl _|exact .cons _ (.refl _))
theorem Xkz (v:Value) (l:List TokD) (xs:List Int) (h:l.length+(commaT xs).length≤70000):FnC Tryz.prog 122 [ex v,isl eI xs] [wv v l] (Xfa (l++commaT xs)):=by
 refine Wp (i:=1) rfl Wu fun hc1=>?_
 have hc2:xs.length * 8≤140737488355328:=hc1.2
 refine X3 Tryz.func122 rfl Tryz.ntmps122 rfl fun w0 F0 out=>?_
 rw [Xky] at h ⊢
 have hle:=Xn9 (fun n:Int=>[tkN n]) xs
 (repeat' (first|refine Xe ?_|refine Xb ?_|refine Xc ?_|(apply Xn;(exact Xm rfl);exact rfl)|refine Xo ?_))
 refine Ws (fun z:Nat×Value=>([(0,ex z.2),(1,isl eI xs),(5,exI .i64 (z.1:Int))],[wv z.2 (l++Xgq (fun n=>[tkN n]) (xs.take z.1))])) (fun z=>z.1≤xs.length) (fun z=>xs.length-z.1) (0,v) ?_ (Nat.zero_le _) fun z hz=>?_
 · simp only [List.take_zero,Xgq,List.append_nil]
   exact Xg (by repeat (first|exact Xr|refine Xl rfl ?_)) (List.Sublist.refl _)
 obtain ⟨i,u⟩:=z
 simp only at hz ⊢
 by_cases hlt:i<xs.length
 · have hn:=hle (i+1)
   rw [Q5 _ _ hlt,List.length_append,List.length_append] at hn
   by_cases h0:i=0
   · rw [if_pos h0] at hn
     simp only [List.length_cons,List.length_nil] at hn
     (repeat' (first|refine Xe ?_|refine Xb ?_|refine Xc ?_|(apply Xn;(first|exact Xf rfl|exact Xm rfl|exact Yag|exact Ybw|exact Yah|exact Yaj);exact rfl)|refine Xo ?_|refine Xs ?_|(apply Xh;exact rfl;(apply Xi;(refine Xk (.one 0 rfl .nil) Tryz.func171 rfl (Ql _ _ _ Yaf) rfl ?_;rintro _ _ ⟨v1,rfl,rfl⟩)))|(refine Xp rfl (fun hb=>?_) (fun hb=>?_)<;>(repeat (first|replace hb:=Xz hb|replace hb:=X0 hb))<;>(try (exfalso;omega)))))
     all_goals (try (exfalso;first|contradiction|omega))
     refine ⟨(i+1,v1),hlt,by show xs.length-(i+1)<xs.length-i;omega,?_⟩
     simp only [Q5 _ _ hlt,if_pos h0,List.nil_append,←List.append_assoc]
     exact Xg (by repeat (first|exact Xr|refine Xl rfl ?_)) (List.Sublist.refl _)
   · rw [if_neg h0] at hn
     simp only [List.length_cons,List.length_nil] at hn
     (repeat' (first|refine Xe ?_|refine Xb ?_|refine Xc ?_|(apply Xn;(first|exact Xf rfl|exact Xm rfl|exact Yag|exact Ybw|exact Yah|exact Yaj);exact rfl)|refine Xo ?_|refine Xs ?_|(apply Xh;exact rfl;(apply Xi;first|(refine Xk (.one 0 rfl .nil) Tryz.func116 rfl (Ul _ _ _ Yaf) rfl ?_;rintro _ _ ⟨v1,rfl,rfl⟩)|(refine Xk (.one 0 rfl .nil) Tryz.func171 rfl (Ql _ _ _ Yaf) rfl ?_;rintro _ _ ⟨v1,rfl,rfl⟩)))|(refine Xp rfl (fun hb=>?_) (fun hb=>?_)<;>(repeat (first|replace hb:=Xz hb|replace hb:=X0 hb))<;>(try (exfalso;omega)))))
     all_goals (try (exfalso;first|contradiction|omega))
     refine ⟨(i+1,v1),hlt,by show xs.length-(i+1)<xs.length-i;omega,?_⟩
     simp only [Q5 _ _ hlt,if_neg h0,←List.append_assoc]
     exact Xg (by repeat (first|exact Xr|refine Xl rfl ?_)) (List.Sublist.refl _)
 · have hi:i=xs.length:=by omega
   subst hi
   (repeat' (first|refine Xe ?_|refine Xb ?_|refine Xc ?_|(apply Xn;exact Yc2;exact rfl)|refine Xw ?_|refine Wm ?_|(refine Xp rfl (fun hb=>?_) (fun hb=>?_)<;>(repeat (first|replace hb:=Xz hb|replace hb:=X0 hb))<;>(try (exfalso;omega)))))
   all_goals (try (exfalso;first|contradiction|omega))
   refine ⟨.inr rfl,Vd rfl (.tmp rfl) ?_ ⟨_,rfl,rfl⟩⟩
   rw [List.take_length]
   exact .refl _
theorem Xp5 (k:Nat) (x:Ex):FnC Tryz.prog 217 [agg (exV k x)] [] (fun q loc=>q=exB (decide (x.kind=6∨x.kind=7))∧loc=[]):=by
 refine X3 Tryz.func217 rfl Tryz.ntmps217 rfl fun w0 F0 out=>?_
 (repeat' (first|refine Xe ?_|refine Xb ?_|refine Xc ?_|(apply Xn;(first|exact Xf rfl|exact Xm rfl|exact Wd (b:=true) rfl (fun _=>rfl) (fun e=>by cases e)|exact Wd (b:=false) rfl (fun e=>by cases e) (fun _=>rfl)|exact Yai|exact Yad|exact Yar);exact rfl)|(refine Wv rfl rfl rfl rfl rfl ?_)|(apply W0;exact rfl;exact rfl;exact rfl;(first|exact Yai|exact Yad|exact Yar);exact rfl)|refine Xw ?_|(apply Xh;exact rfl;(apply Vp;refine W4 rfl ?_;intro _))|(refine Wf rfl rfl (fun hb=>?_) (fun hb=>?_)<;>(repeat (first|replace hb:=Xz hb|replace hb:=X0 hb))<;>(try (exfalso;fail)))))
 all_goals (try (exfalso;first|contradiction|omega))
 all_goals (refine ⟨.inr rfl,Vd rfl (.tmp rfl) (List.nil_sublist _) ⟨congrArg exB ?_,rfl⟩⟩)
 all_goals (first|(simp [*];done)|(simp;omega))
theorem Xnb (n:Int):FnC Tryz.prog 195 [exI .i64 n] [] (fun q loc=>q=exI .i64 (T1 n:Nat)∧loc=[]):=by
 refine X3 Tryz.func195 rfl Tryz.ntmps195 rfl fun w0 F0 out=>?_
 (repeat' (first|refine Xe ?_|refine Xb ?_|refine Xc ?_|(apply Xn;(first|exact Xf rfl|exact Xm rfl|exact Yar);exact rfl)|refine Xo ?_|refine Xs ?_|refine Xw ?_|(refine Xp rfl (fun hb=>?_) (fun hb=>?_)<;>(repeat (first|replace hb:=Xz hb|replace hb:=X0 hb))<;>(try (exfalso;contradiction)))))
 all_goals (try (exfalso;first|contradiction|omega))
 all_goals (refine ⟨.inr rfl,Vd rfl (.tmp rfl) (List.nil_sublist _) ⟨?_,rfl⟩⟩)
 all_goals (unfold T1;first|(simp [*];done)|(simp;omega))
end Go.Proofs.YthdldeenpgeemaaGreatDoor
namespace Go.Proofs.YthdldeenpgeemaaGreatDoor
open Go Go.RowKit Go.Kx Go.Fr Go.Lx Go.Sx
theorem Xfz (v:Value) (l:List TokD) (x:KeyD) (h:l.length+(Rr x).length≤70000):FnC Tryz.prog 169 [ex v,agg (keyV x)] [wv v l] (Xfa (l++Rr x)):=by
 refine X3 Tryz.func169 rfl Tryz.ntmps169 rfl fun w0 F0 out=>?_
 (repeat' (first|(apply W2 1;refine StopW.out ?_)|refine Xe ?_|refine Xb ?_|refine Xc ?_|(apply Xn;(exact Xm rfl);exact rfl)|(apply Xh;exact rfl;(apply Vp;refine W4 rfl ?_;intro _))))
 refine ⟨?_⟩
 refine X7 (Vq (k:=0) (t:=3) rfl rfl) ?_
 unfold Rr at h ⊢
 by_cases h1:x.kind=1
 · rw [if_pos h1] at h ⊢
   simp only [List.length_cons,List.length_nil] at h
   (repeat' (first|refine Xe ?_|refine Xb ?_|refine Xc ?_|(apply Xn;exact Ya9;exact rfl)|refine Xo ?_|refine Xw ?_|(apply Xh;exact rfl;(apply Xi;(refine Xk (.one 0 rfl .nil) Tryz.func117 rfl (Ri _ _ _ _ Yan) rfl ?_;rintro _ _ ⟨v1,rfl,rfl⟩)))|(refine Xp rfl (fun hb=>?_) (fun hb=>?_)<;>(repeat (first|replace hb:=Xz hb|replace hb:=X0 hb))<;>(try (exfalso;contradiction)))))
   all_goals (try (exfalso;first|contradiction|omega))
   (refine ⟨.inr rfl,Vd rfl (.tmp rfl) ?_ ⟨_,rfl,rfl⟩⟩;simp only [List.append_assoc,List.cons_append,List.nil_append];first|exact .refl _|exact .cons _ (.refl _))
 rw [if_neg h1] at h ⊢
 by_cases h2:x.kind=2
 · rw [if_pos h2] at h ⊢
   simp only [List.length_cons,List.length_nil] at h
   (repeat' (first|refine Xe ?_|refine Xb ?_|refine Xc ?_|(apply Xn;exact Ya9;exact rfl)|refine Xo ?_|refine Xw ?_|(apply Xh;exact rfl;(apply Xi;(refine Xk (.one 0 rfl .nil) Tryz.func117 rfl (Ri _ _ _ _ Yan) rfl ?_;rintro _ _ ⟨v1,rfl,rfl⟩)))|(refine Xp rfl (fun hb=>?_) (fun hb=>?_)<;>(repeat (first|replace hb:=Xz hb|replace hb:=X0 hb))<;>(try (exfalso;contradiction)))))
   all_goals (try (exfalso;first|contradiction|omega))
   (refine ⟨.inr rfl,Vd rfl (.tmp rfl) ?_ ⟨_,rfl,rfl⟩⟩;simp only [List.append_assoc,List.cons_append,List.nil_append];first|exact .refl _|exact .cons _ (.refl _))
 rw [if_neg h2] at h ⊢
 by_cases h5:x.kind=5
 · rw [if_pos h5] at h ⊢
   simp only [List.length_cons,List.length_nil] at h
   (repeat' (first|refine Xe ?_|refine Xb ?_|refine Xc ?_|(apply Xn;exact Ya9;exact rfl)|refine Xo ?_|refine Xw ?_|(apply Xh;exact rfl;(apply Xi;(refine Xk (.one 0 rfl .nil) Tryz.func117 rfl (Ri _ _ _ _ Yan) rfl ?_;rintro _ _ ⟨v1,rfl,rfl⟩)))|(refine Xp rfl (fun hb=>?_) (fun hb=>?_)<;>(repeat (first|replace hb:=Xz hb|replace hb:=X0 hb))<;>(try (exfalso;contradiction)))))
   all_goals (try (exfalso;first|contradiction|omega))
   (refine ⟨.inr rfl,Vd rfl (.tmp rfl) ?_ ⟨_,rfl,rfl⟩⟩;simp only [List.append_assoc,List.cons_append,List.nil_append];first|exact .refl _|exact .cons _ (.refl _))
 rw [if_neg h5] at h ⊢
 by_cases h3:x.kind=3
 · rw [if_pos h3] at h ⊢
   simp only [List.length_cons,List.length_nil] at h
   (repeat' (first|refine Xe ?_|refine Xb ?_|refine Xc ?_|(apply Xn;exact Ya9;exact rfl)|refine Xo ?_|refine Xw ?_|(apply Xh;exact rfl;(apply Xi;(refine Xk (.one 0 rfl .nil) Tryz.func123 rfl (U0 _ _ _ Yan) rfl ?_;rintro _ _ ⟨v1,rfl,rfl⟩)))|(refine Xp rfl (fun hb=>?_) (fun hb=>?_)<;>(repeat (first|replace hb:=Xz hb|replace hb:=X0 hb))<;>(try (exfalso;contradiction)))))
   all_goals (try (exfalso;first|contradiction|omega))
   (refine ⟨.inr rfl,Vd rfl (.tmp rfl) ?_ ⟨_,rfl,rfl⟩⟩;simp only [List.append_assoc,List.cons_append,List.nil_append];first|exact .refl _|exact .cons _ (.refl _))
 rw [if_neg h3] at h ⊢
 by_cases h4:x.kind=4
 · rw [if_pos h4] at h ⊢
   simp only [List.length_cons,List.length_nil] at h
   (repeat' (first|refine Xe ?_|refine Xb ?_|refine Xc ?_|(apply Xn;exact Ya9;exact rfl)|refine Xo ?_|refine Xw ?_|(apply Xh;exact rfl;(apply Xi;(refine Xk (.one 0 rfl .nil) Tryz.func123 rfl (U0 _ _ _ Yan) rfl ?_;rintro _ _ ⟨v1,rfl,rfl⟩)))|(refine Xp rfl (fun hb=>?_) (fun hb=>?_)<;>(repeat (first|replace hb:=Xz hb|replace hb:=X0 hb))<;>(try (exfalso;contradiction)))))
   all_goals (try (exfalso;first|contradiction|omega))
   (refine ⟨.inr rfl,Vd rfl (.tmp rfl) ?_ ⟨_,rfl,rfl⟩⟩;simp only [List.append_assoc,List.cons_append,List.nil_append];first|exact .refl _|exact .cons _ (.refl _))
 rw [if_neg h4] at h ⊢
 simp only [List.length_cons,List.length_nil] at h
 (repeat' (first|refine Xe ?_|refine Xb ?_|refine Xc ?_|(apply Xn;exact Ya9;exact rfl)|refine Xo ?_|refine Xs ?_|refine Xw ?_|(apply Xh;exact rfl;(apply Xi;(refine Xk (.one 0 rfl .nil) Tryz.func123 rfl (U0 _ _ _ Yan) rfl ?_;rintro _ _ ⟨v1,rfl,rfl⟩)))|(refine Xp rfl (fun hb=>?_) (fun hb=>?_)<;>(repeat (first|replace hb:=Xz hb|replace hb:=X0 hb))<;>(try (exfalso;contradiction)))))
 all_goals (try (exfalso;first|contradiction|omega))
 (refine ⟨.inr rfl,Vd rfl (.tmp rfl) ?_ ⟨_,rfl,rfl⟩⟩;simp only [List.append_assoc,List.cons_append,List.nil_append];first|exact .refl _|exact .cons _ (.refl _))
theorem Xdq (v:Value) (l:List TokD) (w:List UInt8) (x:ItemD) (h:l.length+(Un w x).length≤70000):FnC Tryz.prog 119 [ex v,exT w,agg (itemV x)] [wv v l] (Xfa (l++Un w x)):=by
 have h:l.length+7≤70000:=h
 refine X3 Tryz.func119 rfl Tryz.ntmps119 rfl fun w0 F0 out=>?_
 (repeat' (first|(apply Wa 1;refine StopW.out ?_)|refine Xe ?_|refine Xb ?_|refine Xc ?_|(apply Xn;(exact Xm rfl);exact rfl)|(apply Xh;exact rfl;(apply Vp;refine W4 rfl ?_;intro _))))
 refine ⟨?_⟩
 refine X7 (Vq (k:=0) (t:=5) rfl rfl) ?_
 (refine Vh ([]) 13 rfl ?_)
 all_goals ((apply Xd 0 rfl Yaa rfl Yab Xa;(exact Xf rfl);exact rfl))
 all_goals ((apply Xd 1 rfl Yaa rfl Yab Xa;(exact Xf rfl);exact rfl))
 all_goals ((apply Xd 2 rfl Yaa rfl Yab Xa;(exact Yae);exact rfl))
 all_goals ((apply Xv 3 rfl Yaa rfl Yaa Yab Xa;(exact Yag);exact rfl))
 all_goals ((apply Xd 5 rfl Yaa rfl Yab Xa;(exact Yae);exact rfl))
 all_goals ((apply Xv 6 rfl Yaa rfl Yaa Yab Xa;(exact Yag);exact rfl))
 all_goals ((apply Xd 8 rfl Yaa rfl Yab Xa;(exact Yae);exact rfl))
 all_goals ((apply Xv 9 rfl Yaa rfl Yaa Yab Xa;(exact Yag);exact rfl))
 all_goals ((apply Xu 4;exact Yaa;exact rfl;exact Xa;exact (fun _ _ h=>h);(apply Xi;(refine Xk (.one 0 rfl .nil) Tryz.func117 rfl (Ri _ _ _ _ Yan) rfl ?_;rintro _ _ ⟨v1,rfl,rfl⟩))))
 all_goals ((apply Xu 7;exact Yaa;exact rfl;exact Xa;exact (fun _ _ h=>h);(apply Xi;(refine Xk (.one 0 rfl .nil) Tryz.func124 rfl (Sp _ _ _ _ Yaf) rfl ?_;rintro _ _ ⟨v1,rfl,rfl⟩))))
 all_goals ((apply Xu 10;exact Yaa;exact rfl;exact Xa;exact (fun _ _ h=>h);(apply Xi;(refine Xk (.one 0 rfl .nil) Tryz.func124 rfl (Sp _ _ _ _ Yaf) rfl ?_;rintro _ _ ⟨v1,rfl,rfl⟩))))
 all_goals ((apply Xu 11;exact Yaa;exact rfl;exact Xa;exact (fun _ _ h=>h);(apply Xi;(refine Xk (.one 0 rfl .nil) Tryz.func116 rfl (Ul _ _ _ Yaf) rfl ?_;rintro _ _ ⟨v1,rfl,rfl⟩))))
 all_goals ((apply Xd 12 rfl Yaa rfl Yab Xa;(exact Xm rfl);exact rfl))
 all_goals (refine X9 Yaa ?_)
 all_goals ((repeat' (refine Xw ?_)))
 unfold Un
 (refine ⟨.inr rfl,Vd rfl (.tmp rfl) ?_ ⟨_,rfl,rfl⟩⟩;simp only [List.append_assoc,List.cons_append,List.nil_append];first|exact .refl _|exact .cons _ (.refl _))
theorem Xcm (v:Value) (l:List TokD) (x:Crit) (h:l.length+(T3 x).length≤70000):FnC Tryz.prog 118 [ex v,agg (critV x)] [wv v l] (Xfa (l++T3 x)):=by
 refine X3 Tryz.func118 rfl Tryz.ntmps118 rfl fun w0 F0 out=>?_
 unfold T3 at h ⊢
 simp only [List.length_append,List.length_cons,List.length_nil] at h
 (repeat' (first|(apply Wa 1;refine StopW.out ?_)|refine Xe ?_|refine Xb ?_|refine Xc ?_|(apply Xn;(exact Xm rfl);exact rfl)|(apply Xh;exact rfl;(apply Vp;refine W4 rfl ?_;intro _))))
 refine ⟨?_⟩
 refine X7 (Vq (k:=0) (t:=3) rfl rfl) ?_
 (refine Vh ([]) 14 rfl ?_)
 all_goals ((apply Xd 0 rfl Yaa rfl Yab Xa;(exact Xf rfl);exact rfl))
 all_goals ((apply Xd 1 rfl Yaa rfl Yab Xa;(exact Yae);exact rfl))
 all_goals ((apply Xv 2 rfl Yaa rfl Yaa Yab Xa;(exact Yag);exact rfl))
 all_goals ((apply Xd 4 rfl Yaa rfl Yab Xa;(exact Yae);exact rfl))
 all_goals ((apply Xv 5 rfl Yaa rfl Yaa Yab Xa;(exact Yag);exact rfl))
 all_goals ((apply Xd 7 rfl Yaa rfl Yab Xa;(exact Yae);exact rfl))
 all_goals ((apply Xv 8 rfl Yaa rfl Yaa Yab Xa;(exact Yag);exact rfl))
 all_goals ((apply Xd 10 rfl Yaa rfl Yab Xa;(exact Yae);exact rfl))
 all_goals ((apply Xv 11 rfl Yaa rfl Yaa Yab Xa;(exact Yag);exact rfl))
 all_goals ((apply Xu 3;exact Yaa;exact rfl;exact Xa;exact (fun _ _ h=>h);(apply Xi;(refine Xk (.one 0 rfl .nil) Tryz.func117 rfl (Ri _ _ _ _ Yan) rfl ?_;rintro _ _ ⟨v1,rfl,rfl⟩))))
 all_goals ((apply Xu 6;exact Yaa;exact rfl;exact Xa;exact (fun _ _ h=>h);(apply Xi;(refine Xk (.one 0 rfl .nil) Tryz.func124 rfl (Sp _ _ _ _ Yaf) rfl ?_;rintro _ _ ⟨v1,rfl,rfl⟩))))
 all_goals ((apply Xu 9;exact Yaa;exact rfl;exact Xa;exact (fun _ _ h=>h);(apply Xi;(refine Xk (.one 0 rfl .nil) Tryz.func124 rfl (Sp _ _ _ _ Yaf) rfl ?_;rintro _ _ ⟨v1,rfl,rfl⟩))))
 all_goals ((apply Xu 12;exact Yaa;exact rfl;exact Xa;exact (fun _ _ h=>h);(apply Xi;(refine Xk (.one 0 rfl .nil) Tryz.func124 rfl (Sp _ _ _ _ Yaf) rfl ?_;rintro _ _ ⟨v1,rfl,rfl⟩))))
 all_goals ((apply Xd 13 rfl Yaa rfl Yab Xa;(exact Xm rfl);exact rfl))
 all_goals (refine X9 Yaa ?_)
 (repeat' (first|(apply W2 2;refine StopW.out ?_)|refine Xe ?_))
 refine ⟨?_⟩
 refine V1 (fun z:Value=>([(0,ex z),(3,fp (critV x))],[wv z (l++[tkW wCriterion,tkW x.name,tkW wFrom,tkN x.low,tkW wTo,tkN x.high,tkW wStep,tkN x.step]++Xc0 x)])) (fun _=>True) ?_ fun z _=>?_
 · by_cases h1:x.how=1
   · have e:Xc0 x=[tkW wSum]:=by unfold Xc0;rw [if_pos h1]
     rw [e] at h ⊢
     simp only [List.length_cons,List.length_nil] at h
     (repeat' (first|refine Xe ?_|refine Xb ?_|refine Xc ?_|(apply Xn;exact Ya9;exact rfl)|(apply Xh;exact rfl;(apply Xi;(refine Xk (.one 0 rfl .nil) Tryz.func123 rfl (U0 _ _ _ Yaf) rfl ?_;rintro _ _ ⟨v1,rfl,rfl⟩)))|(refine Xp rfl (fun hb=>?_) (fun hb=>?_)<;>(repeat (first|replace hb:=Xz hb|replace hb:=X0 hb))<;>(try (exfalso;contradiction)))))
     all_goals (try (exfalso;first|contradiction|omega))
     refine Wo (Q:=fun _ _ _=>True) v1 Yd0 ?_
     simp only [List.append_assoc,List.cons_append,List.nil_append]
     exact Xg (by repeat (first|exact Xr|refine Xl rfl ?_)) (List.Sublist.refl _)
   by_cases h2:x.how=2
   · have e:Xc0 x=[tkW wMean,tkW wTrim,tkN x.trim]:=by unfold Xc0;rw [if_neg h1,if_pos h2]
     rw [e] at h ⊢
     simp only [List.length_cons,List.length_nil] at h
     (repeat' (first|(apply Wa 5;refine StopW.out ?_)|refine Xe ?_|refine Xb ?_|refine Xc ?_|(apply Xn;(first|exact Yag|exact Yae|exact Yar);exact rfl)|(refine Xp rfl (fun hb=>?_) (fun hb=>?_)<;>(repeat (first|replace hb:=Xz hb|replace hb:=X0 hb))<;>(try (exfalso;contradiction)))))
     all_goals (try (exfalso;first|contradiction|omega))
     refine ⟨?_⟩
     (refine Vh ([]) 6 rfl ?_)
     all_goals ((apply Xd 0 rfl Yaa rfl Yab Xa;(exact Xf rfl);exact rfl))
     all_goals ((apply Xd 2 rfl Yaa rfl Yab Xa;(exact Yae);exact rfl))
     all_goals ((apply Xv 3 rfl Yaa rfl Yaa Yab Xa;(exact Yag);exact rfl))
     all_goals ((apply Xu 1;exact Yaa;exact rfl;exact Xa;exact (fun _ _ h=>h);(apply Xi;(refine Xk (.one 0 rfl .nil) Tryz.func123 rfl (U0 _ _ _ Yaf) rfl ?_;rintro _ _ ⟨v1,rfl,rfl⟩))))
     all_goals ((apply Xu 4;exact Yaa;exact rfl;exact Xa;exact (fun _ _ h=>h);(apply Xi;(refine Xk (.one 0 rfl .nil) Tryz.func124 rfl (Sp _ _ _ _ Yaf) rfl ?_;rintro _ _ ⟨v1,rfl,rfl⟩))))
     all_goals ((apply Xd 5 rfl Yaa rfl Yab Xa;(exact Xm rfl);exact rfl))
     all_goals (refine X9 Yaa ?_)
     all_goals ((repeat' (fail)))
     refine Wo (Q:=fun _ _ _=>True) v1 Yd0 ?_
     simp only [List.append_assoc,List.cons_append,List.nil_append]
     exact Xg (by repeat (first|exact Xr|refine Xl rfl ?_)) (List.Sublist.refl _)
   have e:Xc0 x=[tkW wMedian]:=by unfold Xc0;rw [if_neg h1,if_neg h2]
   rw [e] at h ⊢
   simp only [List.length_cons,List.length_nil] at h
   (repeat' (first|refine Xe ?_|refine Xb ?_|refine Xc ?_|(apply Xn;exact Ya9;exact rfl)|(apply Xh;exact rfl;(apply Xi;(refine Xk (.one 0 rfl .nil) Tryz.func123 rfl (U0 _ _ _ Yaf) rfl ?_;rintro _ _ ⟨v1,rfl,rfl⟩)))|(refine Xp rfl (fun hb=>?_) (fun hb=>?_)<;>(repeat (first|replace hb:=Xz hb|replace hb:=X0 hb))<;>(try (exfalso;contradiction)))))
   all_goals (try (exfalso;first|contradiction|omega))
   refine Wo (Q:=fun _ _ _=>True) v1 Yd0 ?_
   simp only [List.append_assoc,List.cons_append,List.nil_append]
   exact Xg (by repeat (first|exact Xr|refine Xl rfl ?_)) (List.Sublist.refl _)
 dsimp only
 cases hr:x.rev
 · rw [hr,if_neg Yao] at h
   rw [if_neg Yao]
   simp only [List.length_nil] at h
   (repeat' (first|refine Xe ?_|refine Xb ?_|refine Xc ?_|(apply Xn;exact Yc3;exact rfl)|refine Xs ?_|refine Xw ?_|(apply Xh;exact rfl;(apply Xi;first|(refine Xk (.one 0 rfl .nil) Tryz.func123 rfl (U0 _ _ _ Yaf) rfl ?_;rintro _ _ ⟨v1,rfl,rfl⟩)|(refine Xk (.one 0 rfl .nil) Tryz.func116 rfl (Ul _ _ _ Yaf) rfl ?_;rintro _ _ ⟨v1,rfl,rfl⟩)))|(refine Xp rfl (fun hb=>?_) (fun hb=>?_)<;>(repeat (fail))<;>(try (exfalso;fail)))))
   all_goals (try (exfalso;first|contradiction|(rw [hr] at hb;exact absurd hb Yao)))
   (refine ⟨.inr rfl,Vd rfl (.tmp rfl) ?_ ⟨_,rfl,rfl⟩⟩;simp only [List.append_assoc,List.cons_append,List.nil_append];first|exact .refl _|exact .cons _ (.refl _))
 · rw [hr,if_pos rfl] at h
   rw [if_pos rfl]
   simp only [List.length_cons,List.length_nil] at h
   (repeat' (first|refine Xe ?_|refine Xb ?_|refine Xc ?_|(apply Xn;exact Yc3;exact rfl)|refine Xs ?_|refine Xw ?_|(apply Xh;exact rfl;(apply Xi;first|(refine Xk (.one 0 rfl .nil) Tryz.func123 rfl (U0 _ _ _ Yaf) rfl ?_;rintro _ _ ⟨v1,rfl,rfl⟩)|(refine Xk (.one 0 rfl .nil) Tryz.func116 rfl (Ul _ _ _ Yaf) rfl ?_;rintro _ _ ⟨v1,rfl,rfl⟩)))|(refine Xp rfl (fun hb=>?_) (fun hb=>?_)<;>(repeat (fail))<;>(try (exfalso;fail)))))
   all_goals (try (exfalso;first|contradiction|(rw [hr] at hb;exact absurd hb Yao)))
   (refine ⟨.inr rfl,Vd rfl (.tmp rfl) ?_ ⟨_,rfl,rfl⟩⟩;simp only [List.append_assoc,List.cons_append,List.nil_append];first|exact .refl _|exact .cons _ (.refl _))
theorem Xk0 (v:Value) (l:List TokD) (x:TieD) (h:l.length+(Xbq x).length≤70000):FnC Tryz.prog 120 [ex v,agg (Xb6 x)] [wv v l] (Xfa (l++Xbq x)):=by
 refine Wp (i:=1) rfl (Vo (i:=1) rfl Wu) fun hc1=>?_
 have hc2:x.keys.length * 32≤140737488355328:=hc1.2
 refine X3 Tryz.func120 rfl Tryz.ntmps120 rfl fun w0 F0 out=>?_
 unfold Xbq at h ⊢
 rw [Xna] at h ⊢
 simp only [List.length_append,List.length_cons,List.length_nil] at h
 have hle:=Xn9 Rr x.keys
 (repeat' (first|(apply W2 1;refine StopW.out ?_)|refine Xe ?_|refine Xb ?_|refine Xc ?_|(apply Xn;(exact Xm rfl);exact rfl)|(apply Xh;exact rfl;(apply Vp;refine W4 rfl ?_;intro _))))
 refine ⟨?_⟩
 refine X7 (Vq (k:=0) (t:=3) rfl rfl) ?_
 (repeat' (first|refine Xe ?_|refine Xb ?_|refine Xc ?_|(apply Xn;exact Yc3;exact rfl)|refine Xo ?_|(apply Xh;exact rfl;(apply Xi;(refine Xk (.one 0 rfl .nil) Tryz.func117 rfl (Ri _ _ _ _ Yan) rfl ?_;rintro _ _ ⟨v1,rfl,rfl⟩)))))
 refine Ws (fun z:Nat×Value=>([(0,ex z.2),(3,fp (Xb6 x)),(5,exI .i64 (z.1:Int))],[wv z.2 (l++[tkW wTie,tkW x.name]++Xgq Rr (x.keys.take z.1))])) (fun z=>z.1≤x.keys.length) (fun z=>x.keys.length-z.1) (0,v1) ?_ (Nat.zero_le _) fun z hz=>?_
 · simp only [List.take_zero,Xgq,List.append_nil]
   exact Xg (by repeat (first|exact Xr|refine Xl rfl ?_)) (List.Sublist.refl _)
 obtain ⟨i,u⟩:=z
 simp only at hz ⊢
 by_cases hlt:i<x.keys.length
 · have hn:=hle (i+1)
   rw [Q5 _ _ hlt,List.length_append,List.length_append] at hn
   by_cases h0:i=0
   · rw [if_pos h0] at hn
     simp only [List.length_cons,List.length_nil] at hn
     (repeat' (first|refine Xe ?_|refine Xb ?_|refine Xc ?_|(apply Xn;(first|exact Xf rfl|exact Xm rfl|exact Ybj|exact Yae|exact Ybw|exact Yah|exact Yaj);exact rfl)|refine Xo ?_|refine Xs ?_|(apply Xh;exact rfl;(apply Xi;(refine Xk (.one 0 rfl .nil) Tryz.func169 rfl (Xfz _ _ _ Yaf) rfl ?_;rintro _ _ ⟨v1,rfl,rfl⟩)))|(refine Xp rfl (fun hb=>?_) (fun hb=>?_)<;>(repeat (first|replace hb:=Xz hb|replace hb:=X0 hb))<;>(try (exfalso;omega)))))
     all_goals (try (exfalso;first|contradiction|omega))
     refine ⟨(i+1,v1),hlt,by show x.keys.length-(i+1)<x.keys.length-i;omega,?_⟩
     simp only [Q5 _ _ hlt,if_pos h0,List.nil_append,←List.append_assoc]
     exact Xg (by repeat (first|exact Xr|refine Xl rfl ?_)) (List.Sublist.refl _)
   · rw [if_neg h0] at hn
     simp only [List.length_cons,List.length_nil] at hn
     (repeat' (first|refine Xe ?_|refine Xb ?_|refine Xc ?_|(apply Xn;(first|exact Xf rfl|exact Xm rfl|exact Ybj|exact Yae|exact Ybw|exact Yah|exact Yaj);exact rfl)|refine Xo ?_|refine Xs ?_|(apply Xh;exact rfl;(apply Xi;first|(refine Xk (.one 0 rfl .nil) Tryz.func116 rfl (Ul _ _ _ Yaf) rfl ?_;rintro _ _ ⟨v1,rfl,rfl⟩)|(refine Xk (.one 0 rfl .nil) Tryz.func169 rfl (Xfz _ _ _ Yaf) rfl ?_;rintro _ _ ⟨v1,rfl,rfl⟩)))|(refine Xp rfl (fun hb=>?_) (fun hb=>?_)<;>(repeat (first|replace hb:=Xz hb|replace hb:=X0 hb))<;>(try (exfalso;omega)))))
     all_goals (try (exfalso;first|contradiction|omega))
     refine ⟨(i+1,v1),hlt,by show x.keys.length-(i+1)<x.keys.length-i;omega,?_⟩
     simp only [Q5 _ _ hlt,if_neg h0,←List.append_assoc]
     exact Xg (by repeat (first|exact Xr|refine Xl rfl ?_)) (List.Sublist.refl _)
 · have hi:i=x.keys.length:=by omega
   subst hi
   have hn:=hle x.keys.length
   rw [List.take_length] at hn ⊢
   (repeat' (first|refine Xe ?_|refine Xb ?_|refine Xc ?_|(apply Xn;exact Ycn;exact rfl)|refine Xw ?_|refine Wm ?_|(apply Xh;exact rfl;(apply Xi;(refine Xk (.one 0 rfl .nil) Tryz.func116 rfl (Ul _ _ _ Yaf) rfl ?_;rintro _ _ ⟨v1,rfl,rfl⟩)))|(refine Xp rfl (fun hb=>?_) (fun hb=>?_)<;>(repeat (first|replace hb:=Xz hb|replace hb:=X0 hb))<;>(try (exfalso;omega)))))
   all_goals (try (exfalso;first|contradiction|omega))
   (refine ⟨.inr rfl,Vd rfl (.tmp rfl) ?_ ⟨_,rfl,rfl⟩⟩;simp only [List.append_assoc,List.cons_append,List.nil_append];first|exact .refl _|exact .cons _ (.refl _))
end Go.Proofs.YthdldeenpgeemaaGreatDoor
namespace Go.Proofs.YthdldeenpgeemaaGreatDoor
open Go Go.RowKit Go.Kx Go.Fr Go.Lx Go.Sx
theorem Xr0 {l:List Ex} (h:l.length=4): ∃a b c d,l=[a,b,c,d]:=match l,h with
 | [a,b,c,d],_=>⟨a,b,c,d,rfl⟩
theorem Xqx {l:List Ex} (h:l.length=2): ∃a b,l=[a,b]:=match l,h with
 | [a,b],_=>⟨a,b,rfl⟩
def PEx (k:Nat):Prop:= ∀(x:Ex) (v:Value) (l:List TokD),l.length+(exT' x).length≤70000→FnC Tryz.prog 170 [ex v,agg (exV k x)] [wv v l] (Xfa (l++exT' x))
def PTm (k:Nat):Prop:= ∀(x:Ex) (v:Value) (l:List TokD),l.length+(Rh (x.kind,exT' x)).length≤70000→FnC Tryz.prog 197 [ex v,agg (exV k x)] [wv v l] (Xfa (l++Rh (x.kind,exT' x)))
theorem Xjo (k:Nat) (h:PEx k):PTm k:=by
 intro x v l hlen
 refine X3 Tryz.func197 rfl Tryz.ntmps197 rfl fun w0 F0 out=>?_
 (repeat' (first|(apply W2 1;refine StopW.out ?_)|refine Xe ?_|refine Xb ?_|refine Xc ?_|(apply Xn;(exact Xm rfl);exact rfl)|(apply Xh;exact rfl;(apply Vp;refine W4 rfl ?_;intro _))))
 refine ⟨?_⟩
 refine X7 (Vq (k:=0) (t:=3) rfl rfl) ?_
 unfold Rh at hlen ⊢
 simp only at hlen ⊢
 have hs:=Xp5 k x
 by_cases hk:x.kind=6∨x.kind=7
 · rw [decide_eq_true hk] at hs
   rw [if_pos hk] at hlen ⊢
   simp only [List.length_append,List.length_cons,List.length_nil] at hlen
   (repeat' (first|(apply Wa 2;refine StopW.out ?_)|refine Xe ?_|refine Xb ?_|refine Xc ?_|(apply Xn;(exact Yav);exact rfl)|refine Xx rfl ?_|(apply Xh;exact rfl;(apply Xi;(refine Xq Tryz.func217 rfl hs rfl ?_;rintro _ _ ⟨rfl,rfl⟩)))))
   all_goals (try (exfalso;first|contradiction|omega))
   refine ⟨?_⟩
   (refine Vh ([]) 6 rfl ?_)
   all_goals ((apply Xd 0 rfl Yaa rfl Yab Xa;(exact Xf rfl);exact rfl))
   all_goals ((apply Xv 2 rfl Yaa rfl Yaa Yab Xa;(exact Yav);exact rfl))
   all_goals ((apply Xu 1;exact Yaa;exact rfl;exact Xa;exact (fun _ _ h=>h);(apply Xi;(refine Xk (.one 0 rfl .nil) Tryz.func116 rfl (Ul _ _ _ Yan) rfl ?_;rintro _ _ ⟨v1,rfl,rfl⟩))))
   all_goals ((apply Xu 3;exact Yaa;exact rfl;exact Xa;exact (fun _ _ h=>h);(apply Xi;(refine Xk (.one 0 rfl .nil) Tryz.func170 rfl (h x _ _ Yaf) rfl ?_;rintro _ _ ⟨v1,rfl,rfl⟩))))
   all_goals ((apply Xu 4;exact Yaa;exact rfl;exact Xa;exact (fun _ _ h=>h);(apply Xi;(refine Xk (.one 0 rfl .nil) Tryz.func116 rfl (Ul _ _ _ Yaf) rfl ?_;rintro _ _ ⟨v1,rfl,rfl⟩))))
   all_goals ((apply Xd 5 rfl Yaa rfl Yab Xa;(exact Xm rfl);exact rfl))
   all_goals (refine X9 Yaa ?_)
   all_goals ((repeat' (refine Xw ?_)))
   (refine ⟨.inr rfl,Vd rfl (.tmp rfl) ?_ ⟨_,rfl,rfl⟩⟩;simp only [List.append_assoc,List.cons_append,List.nil_append];first|exact .refl _|exact .cons _ (.refl _))
 · rw [decide_eq_false hk] at hs
   rw [if_neg hk] at hlen ⊢
   (repeat' (first|refine Xe ?_|refine Xb ?_|refine Xc ?_|(apply Xn;(first|exact Xf rfl|exact Xm rfl|exact Yav);exact rfl)|refine Xs ?_|refine Xw ?_|refine Xy rfl ?_|(apply Xh;exact rfl;(apply Xi;first|(refine Xq Tryz.func217 rfl hs rfl ?_;rintro _ _ ⟨rfl,rfl⟩)|(refine Xk (.one 0 rfl .nil) Tryz.func170 rfl (h x _ _ Yan) rfl ?_;rintro _ _ ⟨v1,rfl,rfl⟩)))))
   all_goals (try (exfalso;first|contradiction|omega))
   (refine ⟨.inr rfl,Vd rfl (.tmp rfl) ?_ ⟨_,rfl,rfl⟩⟩;simp only [List.append_assoc,List.cons_append,List.nil_append];first|exact .refl _|exact .cons _ (.refl _))
theorem Xjp (k:Nat) (hx:PEx k) (hm:PTm k):PEx (k+1):=by
 rintro ⟨kd,s,n,d,l⟩ v l0 hlen
 have hE:exT' (.mk kd s n d l)=Xas kd s n d (l.map fun y=>(y.kind,exT' y)):=by rw [Xef];rfl
 rw [hE] at hlen ⊢
 generalize hT:Xas kd s n d (l.map fun y=>(y.kind,exT' y))=T at hlen ⊢
 refine Wp (i:=1) rfl (Vo (i:=4) (p:=isl (eEx k) l) rfl Wu) fun hl=>?_
 obtain ⟨hl,-⟩:=hl
 simp only [maxLen] at hl
 show FnC Tryz.prog 170 [ex v,agg [exI .i64 kd,exT s,exI .i64 n,exI .i64 d,isl (eEx k) l]] [wv v l0] _
 refine X3 Tryz.func170 rfl Tryz.ntmps170 rfl fun w0 F0 out=>?_
 (repeat' (first|(apply W2 1;refine StopW.out ?_)|refine Xe ?_|refine Xb ?_|refine Xc ?_|(apply Xn;(exact Xm rfl);exact rfl)|(apply Xh;exact rfl;(apply Vp;refine W4 rfl ?_;intro _))))
 refine ⟨?_⟩
 rename_i b3
 refine X7 ((Vq (k:=0) (t:=3) rfl rfl).trans (Xg (env':=[(0,ex v),(3,fp [exI .i64 kd,exT s,exI .i64 n,exI .i64 d,isl (eEx k) l])]) (loc':=[wv v l0]) (by repeat (first|exact Xr|refine Xl rfl ?_)) (List.Sublist.refl _))) ?_
 refine Xe ?_
 (refine Vh ([]) 7 rfl ?_)
 all_goals ((apply Xd 0 rfl Yaa rfl Yab Xa;(exact Yae);exact rfl))
 all_goals ((apply Xv 1 rfl Yaa rfl Yaa Yab Xa;(exact Yag);exact rfl))
 all_goals ((apply Xd 2 rfl Yaa rfl Yab Xa;(exact Yaj);exact rfl))
 all_goals ((apply Xd 3 rfl Yaa rfl Yab Xa;(exact Yae);exact rfl))
 all_goals ((apply Xv 4 rfl Yaa rfl Yaa Yab Xa;(exact Yag);exact rfl))
 all_goals ((apply Xu 5;exact Yaa;exact rfl;exact Xa;exact (fun _ _ h=>h);(apply Xi;(refine Xq Tryz.func195 rfl (Xnb _) rfl ?_;rintro _ _ ⟨rfl,rfl⟩))))
 all_goals ((apply Xd 6 rfl Yaa rfl Yab Xa;(exact Ybo);exact rfl))
 all_goals (refine X9 Yaa ?_)
 (repeat' (first|(apply W2 3;refine StopW.out ?_)|refine Xe ?_|refine Xb ?_|refine Xc ?_|(apply Xn;exact Yba;exact rfl)|refine Xs ?_|refine Xw ?_|(refine Xp rfl (fun hb=>?_) (fun hb=>?_)<;>(repeat (first|replace hb:=Xz hb|replace hb:=X0 hb|replace hb:=W5 hb|replace hb:=W6 hb))<;>(try (exfalso;fail)))))
 · obtain rfl:T=[]:=hT.symm.trans (Xn7 (by rw [List.length_map];omega))
   rw [List.append_nil]
   exact ⟨.inr rfl,Vd rfl (.tmp rfl) (.refl _) ⟨_,rfl,rfl⟩⟩
 refine ⟨?_⟩
 have hla:l.length=T1 kd:=by omega
 refine X7 (Xg (env':=[(0,ex v),(3,fp [exI .i64 kd,exT s,exI .i64 n,exI .i64 d,isl (eEx k) l])]) (loc':=[wv v l0]) (by repeat (first|exact Xr|refine Xl rfl ?_)) (List.Sublist.refl _)) ?_
 by_cases k1:kd=1
 · subst k1
   obtain rfl:l=[]:=List.length_eq_zero_iff.1 hla
   obtain rfl:T=Xcg n d:=hT.symm
   try simp only [List.length_append,List.length_cons,List.length_nil] at hlen
   (repeat' (first|refine Xe ?_|refine Xb ?_|refine Xc ?_|(apply Xn;exact Ya9;exact rfl)|refine Xo ?_|refine Xw ?_|refine Xx rfl ?_|(apply Xh;exact rfl;(apply Xi;(refine Xk (.one 0 rfl .nil) Tryz.func196 rfl (Xah _ _ _ _ Yan) rfl ?_;rintro _ _ ⟨v1,rfl,rfl⟩)))))
   all_goals (try (exfalso;first|contradiction|omega))
   (refine ⟨.inr rfl,Vd rfl (.tmp rfl) ?_ ⟨_,rfl,rfl⟩⟩;simp only [List.append_assoc,List.cons_append,List.nil_append];first|exact .refl _|exact .cons _ (.refl _))
 by_cases k2:kd=2
 · subst k2
   obtain rfl:l=[]:=List.length_eq_zero_iff.1 hla
   obtain rfl:T=[tkW s]:=hT.symm
   try simp only [List.length_append,List.length_cons,List.length_nil] at hlen
   (repeat' (first|refine Xe ?_|refine Xb ?_|refine Xc ?_|(apply Xn;exact Ya9;exact rfl)|refine Xo ?_|refine Xw ?_|refine Xx rfl ?_|refine Xy rfl ?_|(apply Xh;exact rfl;(apply Xi;(refine Xk (.one 0 rfl .nil) Tryz.func123 rfl (U0 _ _ _ Yan) rfl ?_;rintro _ _ ⟨v1,rfl,rfl⟩)))))
   all_goals (try (exfalso;first|contradiction|omega))
   (refine ⟨.inr rfl,Vd rfl (.tmp rfl) ?_ ⟨_,rfl,rfl⟩⟩;simp only [List.append_assoc,List.cons_append,List.nil_append];first|exact .refl _|exact .cons _ (.refl _))
 by_cases k3:kd=3
 · subst k3
   obtain rfl:l=[]:=List.length_eq_zero_iff.1 hla
   obtain rfl:T=[tkW wBonus]:=hT.symm
   try simp only [List.length_append,List.length_cons,List.length_nil] at hlen
   (repeat' (first|refine Xe ?_|refine Xb ?_|refine Xc ?_|(apply Xn;exact Ya9;exact rfl)|refine Xo ?_|refine Xw ?_|refine Xx rfl ?_|refine Xy rfl ?_|(apply Xh;exact rfl;(apply Xi;(refine Xk (.one 0 rfl .nil) Tryz.func123 rfl (U0 _ _ _ Yan) rfl ?_;rintro _ _ ⟨v1,rfl,rfl⟩)))))
   all_goals (try (exfalso;first|contradiction|omega))
   (refine ⟨.inr rfl,Vd rfl (.tmp rfl) ?_ ⟨_,rfl,rfl⟩⟩;simp only [List.append_assoc,List.cons_append,List.nil_append];first|exact .refl _|exact .cons _ (.refl _))
 by_cases k4:kd=4
 · subst k4
   obtain rfl:l=[]:=List.length_eq_zero_iff.1 hla
   obtain rfl:T=[tkW wMalus]:=hT.symm
   try simp only [List.length_append,List.length_cons,List.length_nil] at hlen
   (repeat' (first|refine Xe ?_|refine Xb ?_|refine Xc ?_|(apply Xn;exact Ya9;exact rfl)|refine Xo ?_|refine Xw ?_|refine Xx rfl ?_|refine Xy rfl ?_|(apply Xh;exact rfl;(apply Xi;(refine Xk (.one 0 rfl .nil) Tryz.func123 rfl (U0 _ _ _ Yan) rfl ?_;rintro _ _ ⟨v1,rfl,rfl⟩)))))
   all_goals (try (exfalso;first|contradiction|omega))
   (refine ⟨.inr rfl,Vd rfl (.tmp rfl) ?_ ⟨_,rfl,rfl⟩⟩;simp only [List.append_assoc,List.cons_append,List.nil_append];first|exact .refl _|exact .cons _ (.refl _))
 by_cases k5:kd=5
 · subst k5
   obtain rfl:l=[]:=List.length_eq_zero_iff.1 hla
   obtain rfl:T=[tkW wRound,tkW s]:=hT.symm
   try simp only [List.length_append,List.length_cons,List.length_nil] at hlen
   (repeat' (first|refine Xe ?_|refine Xb ?_|refine Xc ?_|(apply Xn;exact Ya9;exact rfl)|refine Xo ?_|refine Xw ?_|refine Xx rfl ?_|refine Xy rfl ?_|(apply Xh;exact rfl;(apply Xi;(refine Xk (.one 0 rfl .nil) Tryz.func117 rfl (Ri _ _ _ _ Yan) rfl ?_;rintro _ _ ⟨v1,rfl,rfl⟩)))))
   all_goals (try (exfalso;first|contradiction|omega))
   (refine ⟨.inr rfl,Vd rfl (.tmp rfl) ?_ ⟨_,rfl,rfl⟩⟩;simp only [List.append_assoc,List.cons_append,List.nil_append];first|exact .refl _|exact .cons _ (.refl _))
 by_cases k6:kd=6
 · subst k6
   obtain ⟨e0,e1,rfl⟩: ∃e0 e1,l=[e0,e1]:=Xqx hla
   obtain rfl:T=exT' e0++tkS sPlus::Rh (e1.kind,exT' e1):=hT.symm
   try simp only [List.length_append,List.length_cons,List.length_nil] at hlen
   (repeat' (first|(apply Wa 15;refine StopW.out ?_)|refine Xe ?_|refine Xb ?_|refine Xc ?_|(apply Xn;exact Ybu;exact rfl)|refine Xo ?_|refine Xx rfl ?_|refine Xy rfl ?_))
   all_goals (try (exfalso;first|contradiction|omega))
   refine ⟨?_⟩
   (refine Vh ([]) 13 rfl ?_)
   all_goals ((apply Xd 0 rfl Yaa rfl Yab Xa;(exact Xf rfl);exact rfl))
   all_goals ((apply Xd 1 rfl Yaa rfl Yab Xa;(exact Yae);exact rfl))
   all_goals ((apply Xv 2 rfl Yaa rfl Yaa Yab Xa;(exact Yag);exact rfl))
   all_goals ((apply Xd 3 rfl Yaa rfl Yab Xa;(exact Yah);exact rfl))
   all_goals ((apply Xv 4 rfl Yaa rfl Yaa Yab Xa;(exact Yav);exact rfl))
   all_goals ((apply Xd 7 rfl Yaa rfl Yab Xa;(exact Yae);exact rfl))
   all_goals ((apply Xv 8 rfl Yaa rfl Yaa Yab Xa;(exact Yag);exact rfl))
   all_goals ((apply Xd 9 rfl Yaa rfl Yab Xa;(exact Yah);exact rfl))
   all_goals ((apply Xv 10 rfl Yaa rfl Yaa Yab Xa;(exact Yav);exact rfl))
   all_goals ((apply Xu 5;exact Yaa;exact rfl;exact Xa;exact (fun _ _ h=>h);(apply Xi;(refine Xk (.one 0 rfl .nil) Tryz.func170 rfl (hx e0 _ _ Yan) rfl ?_;rintro _ _ ⟨v1,rfl,rfl⟩))))
   all_goals ((apply Xu 6;exact Yaa;exact rfl;exact Xa;exact (fun _ _ h=>h);(apply Xi;(refine Xk (.one 0 rfl .nil) Tryz.func116 rfl (Ul _ _ _ Yaf) rfl ?_;rintro _ _ ⟨v1,rfl,rfl⟩))))
   all_goals ((apply Xu 11;exact Yaa;exact rfl;exact Xa;exact (fun _ _ h=>h);(apply Xi;(refine Xk (.one 0 rfl .nil) Tryz.func197 rfl (hm e1 _ _ Yaf) rfl ?_;rintro _ _ ⟨v1,rfl,rfl⟩))))
   all_goals ((apply Xd 12 rfl Yaa rfl Yab Xa;(exact Xm rfl);exact rfl))
   all_goals (refine X9 Yaa ?_)
   all_goals ((repeat' (refine Xw ?_)))
   (refine ⟨.inr rfl,Vd rfl (.tmp rfl) ?_ ⟨_,rfl,rfl⟩⟩;simp only [List.append_assoc,List.cons_append,List.nil_append];first|exact .refl _|exact .cons _ (.refl _))
 by_cases k7:kd=7
 · subst k7
   obtain ⟨e0,e1,rfl⟩: ∃e0 e1,l=[e0,e1]:=Xqx hla
   obtain rfl:T=exT' e0++tkS sMinus::Rh (e1.kind,exT' e1):=hT.symm
   try simp only [List.length_append,List.length_cons,List.length_nil] at hlen
   (repeat' (first|(apply Wa 17;refine StopW.out ?_)|refine Xe ?_|refine Xb ?_|refine Xc ?_|(apply Xn;exact Ybu;exact rfl)|refine Xo ?_|refine Xx rfl ?_|refine Xy rfl ?_))
   all_goals (try (exfalso;first|contradiction|omega))
   refine ⟨?_⟩
   (refine Vh ([]) 13 rfl ?_)
   all_goals ((apply Xd 0 rfl Yaa rfl Yab Xa;(exact Xf rfl);exact rfl))
   all_goals ((apply Xd 1 rfl Yaa rfl Yab Xa;(exact Yae);exact rfl))
   all_goals ((apply Xv 2 rfl Yaa rfl Yaa Yab Xa;(exact Yag);exact rfl))
   all_goals ((apply Xd 3 rfl Yaa rfl Yab Xa;(exact Yah);exact rfl))
   all_goals ((apply Xv 4 rfl Yaa rfl Yaa Yab Xa;(exact Yav);exact rfl))
   all_goals ((apply Xd 7 rfl Yaa rfl Yab Xa;(exact Yae);exact rfl))
   all_goals ((apply Xv 8 rfl Yaa rfl Yaa Yab Xa;(exact Yag);exact rfl))
   all_goals ((apply Xd 9 rfl Yaa rfl Yab Xa;(exact Yah);exact rfl))
   all_goals ((apply Xv 10 rfl Yaa rfl Yaa Yab Xa;(exact Yav);exact rfl))
   all_goals ((apply Xu 5;exact Yaa;exact rfl;exact Xa;exact (fun _ _ h=>h);(apply Xi;(refine Xk (.one 0 rfl .nil) Tryz.func170 rfl (hx e0 _ _ Yan) rfl ?_;rintro _ _ ⟨v1,rfl,rfl⟩))))
   all_goals ((apply Xu 6;exact Yaa;exact rfl;exact Xa;exact (fun _ _ h=>h);(apply Xi;(refine Xk (.one 0 rfl .nil) Tryz.func116 rfl (Ul _ _ _ Yaf) rfl ?_;rintro _ _ ⟨v1,rfl,rfl⟩))))
   all_goals ((apply Xu 11;exact Yaa;exact rfl;exact Xa;exact (fun _ _ h=>h);(apply Xi;(refine Xk (.one 0 rfl .nil) Tryz.func197 rfl (hm e1 _ _ Yaf) rfl ?_;rintro _ _ ⟨v1,rfl,rfl⟩))))
   all_goals ((apply Xd 12 rfl Yaa rfl Yab Xa;(exact Xm rfl);exact rfl))
   all_goals (refine X9 Yaa ?_)
   all_goals ((repeat' (refine Xw ?_)))
   (refine ⟨.inr rfl,Vd rfl (.tmp rfl) ?_ ⟨_,rfl,rfl⟩⟩;simp only [List.append_assoc,List.cons_append,List.nil_append];first|exact .refl _|exact .cons _ (.refl _))
 by_cases k8:kd=8
 · subst k8
   obtain ⟨e0,rfl⟩: ∃e0,l=[e0]:=List.length_eq_one_iff.1 hla
   obtain rfl:T=Xcg n d++tkS sStar::Rh (e0.kind,exT' e0):=hT.symm
   try simp only [List.length_append,List.length_cons,List.length_nil] at hlen
   (repeat' (first|(apply Wa 19;refine StopW.out ?_)|refine Xe ?_|refine Xb ?_|refine Xc ?_|(apply Xn;exact Ybu;exact rfl)|refine Xo ?_|refine Xx rfl ?_|refine Xy rfl ?_))
   all_goals (try (exfalso;first|contradiction|omega))
   refine ⟨?_⟩
   (refine Vh ([]) 13 rfl ?_)
   all_goals ((apply Xd 0 rfl Yaa rfl Yab Xa;(exact Xf rfl);exact rfl))
   all_goals ((apply Xd 1 rfl Yaa rfl Yab Xa;(exact Yae);exact rfl))
   all_goals ((apply Xv 2 rfl Yaa rfl Yaa Yab Xa;(exact Yag);exact rfl))
   all_goals ((apply Xd 3 rfl Yaa rfl Yab Xa;(exact Yae);exact rfl))
   all_goals ((apply Xv 4 rfl Yaa rfl Yaa Yab Xa;(exact Yag);exact rfl))
   all_goals ((apply Xd 7 rfl Yaa rfl Yab Xa;(exact Yae);exact rfl))
   all_goals ((apply Xv 8 rfl Yaa rfl Yaa Yab Xa;(exact Yag);exact rfl))
   all_goals ((apply Xd 9 rfl Yaa rfl Yab Xa;(exact Yah);exact rfl))
   all_goals ((apply Xv 10 rfl Yaa rfl Yaa Yab Xa;(exact Yav);exact rfl))
   all_goals ((apply Xu 5;exact Yaa;exact rfl;exact Xa;exact (fun _ _ h=>h);(apply Xi;(refine Xk (.one 0 rfl .nil) Tryz.func196 rfl (Xah _ _ _ _ Yan) rfl ?_;rintro _ _ ⟨v1,rfl,rfl⟩))))
   all_goals ((apply Xu 6;exact Yaa;exact rfl;exact Xa;exact (fun _ _ h=>h);(apply Xi;(refine Xk (.one 0 rfl .nil) Tryz.func116 rfl (Ul _ _ _ Yaf) rfl ?_;rintro _ _ ⟨v1,rfl,rfl⟩))))
   all_goals ((apply Xu 11;exact Yaa;exact rfl;exact Xa;exact (fun _ _ h=>h);(apply Xi;(refine Xk (.one 0 rfl .nil) Tryz.func197 rfl (hm e0 _ _ Yaf) rfl ?_;rintro _ _ ⟨v1,rfl,rfl⟩))))
   all_goals ((apply Xd 12 rfl Yaa rfl Yab Xa;(exact Xm rfl);exact rfl))
   all_goals (refine X9 Yaa ?_)
   all_goals ((repeat' (refine Xw ?_)))
   (refine ⟨.inr rfl,Vd rfl (.tmp rfl) ?_ ⟨_,rfl,rfl⟩⟩;simp only [List.append_assoc,List.cons_append,List.nil_append];first|exact .refl _|exact .cons _ (.refl _))
 by_cases k9:kd=9
 · subst k9
   obtain ⟨e0,e1,rfl⟩: ∃e0 e1,l=[e0,e1]:=Xqx hla
   obtain rfl:T=tkW wLeast::tkS sOpen::exT' e0++tkS sComma::exT' e1++[tkS sClose]:=hT.symm
   try simp only [List.length_append,List.length_cons,List.length_nil] at hlen
   (repeat' (first|(apply Wa 21;refine StopW.out ?_)|refine Xe ?_|refine Xb ?_|refine Xc ?_|(apply Xn;exact Ybu;exact rfl)|refine Xo ?_|refine Xx rfl ?_|refine Xy rfl ?_))
   all_goals (try (exfalso;first|contradiction|omega))
   refine ⟨?_⟩
   (refine Vh ([]) 16 rfl ?_)
   all_goals ((apply Xd 0 rfl Yaa rfl Yab Xa;(exact Xf rfl);exact rfl))
   all_goals ((apply Xd 3 rfl Yaa rfl Yab Xa;(exact Yae);exact rfl))
   all_goals ((apply Xv 4 rfl Yaa rfl Yaa Yab Xa;(exact Yag);exact rfl))
   all_goals ((apply Xd 5 rfl Yaa rfl Yab Xa;(exact Yah);exact rfl))
   all_goals ((apply Xv 6 rfl Yaa rfl Yaa Yab Xa;(exact Yav);exact rfl))
   all_goals ((apply Xd 9 rfl Yaa rfl Yab Xa;(exact Yae);exact rfl))
   all_goals ((apply Xv 10 rfl Yaa rfl Yaa Yab Xa;(exact Yag);exact rfl))
   all_goals ((apply Xd 11 rfl Yaa rfl Yab Xa;(exact Yah);exact rfl))
   all_goals ((apply Xv 12 rfl Yaa rfl Yaa Yab Xa;(exact Yav);exact rfl))
   all_goals ((apply Xu 1;exact Yaa;exact rfl;exact Xa;exact (fun _ _ h=>h);(apply Xi;(refine Xk (.one 0 rfl .nil) Tryz.func123 rfl (U0 _ _ _ Yan) rfl ?_;rintro _ _ ⟨v1,rfl,rfl⟩))))
   all_goals ((apply Xu 2;exact Yaa;exact rfl;exact Xa;exact (fun _ _ h=>h);(apply Xi;(refine Xk (.one 0 rfl .nil) Tryz.func116 rfl (Ul _ _ _ Yaf) rfl ?_;rintro _ _ ⟨v1,rfl,rfl⟩))))
   all_goals ((apply Xu 7;exact Yaa;exact rfl;exact Xa;exact (fun _ _ h=>h);(apply Xi;(refine Xk (.one 0 rfl .nil) Tryz.func170 rfl (hx e0 _ _ Yaf) rfl ?_;rintro _ _ ⟨v1,rfl,rfl⟩))))
   all_goals ((apply Xu 8;exact Yaa;exact rfl;exact Xa;exact (fun _ _ h=>h);(apply Xi;(refine Xk (.one 0 rfl .nil) Tryz.func116 rfl (Ul _ _ _ Yaf) rfl ?_;rintro _ _ ⟨v1,rfl,rfl⟩))))
   all_goals ((apply Xu 13;exact Yaa;exact rfl;exact Xa;exact (fun _ _ h=>h);(apply Xi;(refine Xk (.one 0 rfl .nil) Tryz.func170 rfl (hx e1 _ _ Yaf) rfl ?_;rintro _ _ ⟨v1,rfl,rfl⟩))))
   all_goals ((apply Xu 14;exact Yaa;exact rfl;exact Xa;exact (fun _ _ h=>h);(apply Xi;(refine Xk (.one 0 rfl .nil) Tryz.func116 rfl (Ul _ _ _ Yaf) rfl ?_;rintro _ _ ⟨v1,rfl,rfl⟩))))
   all_goals ((apply Xd 15 rfl Yaa rfl Yab Xa;(exact Xm rfl);exact rfl))
   all_goals (refine X9 Yaa ?_)
   all_goals ((repeat' (refine Xw ?_)))
   (refine ⟨.inr rfl,Vd rfl (.tmp rfl) ?_ ⟨_,rfl,rfl⟩⟩;simp only [List.append_assoc,List.cons_append,List.nil_append];first|exact .refl _|exact .cons _ (.refl _))
 by_cases k10:kd=10
 · subst k10
   obtain ⟨e0,e1,rfl⟩: ∃e0 e1,l=[e0,e1]:=Xqx hla
   obtain rfl:T=tkW wGreatest::tkS sOpen::exT' e0++tkS sComma::exT' e1++[tkS sClose]:=hT.symm
   try simp only [List.length_append,List.length_cons,List.length_nil] at hlen
   (repeat' (first|(apply Wa 23;refine StopW.out ?_)|refine Xe ?_|refine Xb ?_|refine Xc ?_|(apply Xn;exact Ybu;exact rfl)|refine Xo ?_|refine Xx rfl ?_|refine Xy rfl ?_))
   all_goals (try (exfalso;first|contradiction|omega))
   refine ⟨?_⟩
   (refine Vh ([]) 16 rfl ?_)
   all_goals ((apply Xd 0 rfl Yaa rfl Yab Xa;(exact Xf rfl);exact rfl))
   all_goals ((apply Xd 3 rfl Yaa rfl Yab Xa;(exact Yae);exact rfl))
   all_goals ((apply Xv 4 rfl Yaa rfl Yaa Yab Xa;(exact Yag);exact rfl))
   all_goals ((apply Xd 5 rfl Yaa rfl Yab Xa;(exact Yah);exact rfl))
   all_goals ((apply Xv 6 rfl Yaa rfl Yaa Yab Xa;(exact Yav);exact rfl))
   all_goals ((apply Xd 9 rfl Yaa rfl Yab Xa;(exact Yae);exact rfl))
   all_goals ((apply Xv 10 rfl Yaa rfl Yaa Yab Xa;(exact Yag);exact rfl))
   all_goals ((apply Xd 11 rfl Yaa rfl Yab Xa;(exact Yah);exact rfl))
   all_goals ((apply Xv 12 rfl Yaa rfl Yaa Yab Xa;(exact Yav);exact rfl))
   all_goals ((apply Xu 1;exact Yaa;exact rfl;exact Xa;exact (fun _ _ h=>h);(apply Xi;(refine Xk (.one 0 rfl .nil) Tryz.func123 rfl (U0 _ _ _ Yan) rfl ?_;rintro _ _ ⟨v1,rfl,rfl⟩))))
   all_goals ((apply Xu 2;exact Yaa;exact rfl;exact Xa;exact (fun _ _ h=>h);(apply Xi;(refine Xk (.one 0 rfl .nil) Tryz.func116 rfl (Ul _ _ _ Yaf) rfl ?_;rintro _ _ ⟨v1,rfl,rfl⟩))))
   all_goals ((apply Xu 7;exact Yaa;exact rfl;exact Xa;exact (fun _ _ h=>h);(apply Xi;(refine Xk (.one 0 rfl .nil) Tryz.func170 rfl (hx e0 _ _ Yaf) rfl ?_;rintro _ _ ⟨v1,rfl,rfl⟩))))
   all_goals ((apply Xu 8;exact Yaa;exact rfl;exact Xa;exact (fun _ _ h=>h);(apply Xi;(refine Xk (.one 0 rfl .nil) Tryz.func116 rfl (Ul _ _ _ Yaf) rfl ?_;rintro _ _ ⟨v1,rfl,rfl⟩))))
   all_goals ((apply Xu 13;exact Yaa;exact rfl;exact Xa;exact (fun _ _ h=>h);(apply Xi;(refine Xk (.one 0 rfl .nil) Tryz.func170 rfl (hx e1 _ _ Yaf) rfl ?_;rintro _ _ ⟨v1,rfl,rfl⟩))))
   all_goals ((apply Xu 14;exact Yaa;exact rfl;exact Xa;exact (fun _ _ h=>h);(apply Xi;(refine Xk (.one 0 rfl .nil) Tryz.func116 rfl (Ul _ _ _ Yaf) rfl ?_;rintro _ _ ⟨v1,rfl,rfl⟩))))
   all_goals ((apply Xd 15 rfl Yaa rfl Yab Xa;(exact Xm rfl);exact rfl))
   all_goals (refine X9 Yaa ?_)
   all_goals ((repeat' (refine Xw ?_)))
   (refine ⟨.inr rfl,Vd rfl (.tmp rfl) ?_ ⟨_,rfl,rfl⟩⟩;simp only [List.append_assoc,List.cons_append,List.nil_append];first|exact .refl _|exact .cons _ (.refl _))
 by_cases k11:kd=11
 · subst k11
   obtain ⟨e0,e1,e2,e3,rfl⟩:=Xr0 hla
   obtain rfl:T=tkW wIf::exT' e0++tkW wUpto::exT' e1++tkW wThen::exT' e2++tkW wElse::exT' e3++[tkW wEnd]:=hT.symm
   try simp only [List.length_append,List.length_cons,List.length_nil] at hlen
   (repeat' (first|(apply Wa 25;refine StopW.out ?_)|refine Xe ?_|refine Xb ?_|refine Xc ?_|(apply Xn;exact Ybu;exact rfl)|refine Xo ?_|refine Xx rfl ?_|refine Xy rfl ?_))
   all_goals (try (exfalso;first|contradiction|omega))
   refine ⟨?_⟩
   (refine Vh ([]) 9 rfl ?_)
   all_goals ((apply Xd 0 rfl Yaa rfl Yab Xa;(exact Xf rfl);exact rfl))
   all_goals ((apply Xd 2 rfl Yaa rfl Yab Xa;(exact Yae);exact rfl))
   all_goals ((apply Xv 3 rfl Yaa rfl Yaa Yab Xa;(exact Yag);exact rfl))
   all_goals ((apply Xd 4 rfl Yaa rfl Yab Xa;(exact Yah);exact rfl))
   all_goals ((apply Xv 5 rfl Yaa rfl Yaa Yab Xa;(exact Yav);exact rfl))
   all_goals ((apply Xu 1;exact Yaa;exact rfl;exact Xa;exact (fun _ _ h=>h);(apply Xi;(refine Xk (.one 0 rfl .nil) Tryz.func123 rfl (U0 _ _ _ Yan) rfl ?_;rintro _ _ ⟨v1,rfl,rfl⟩))))
   all_goals ((apply Xu 6;exact Yaa;exact rfl;exact Xa;exact (fun _ _ h=>h);(apply Xi;(refine Xk (.one 0 rfl .nil) Tryz.func170 rfl (hx e0 _ _ Yaf) rfl ?_;rintro _ _ ⟨v1,rfl,rfl⟩))))
   all_goals ((apply Xu 7;exact Yaa;exact rfl;exact Xa;exact (fun _ _ h=>h);(apply Xi;(refine Xk (.one 0 rfl .nil) Tryz.func123 rfl (U0 _ _ _ Yaf) rfl ?_;rintro _ _ ⟨v1,rfl,rfl⟩))))
   all_goals ((apply Xd 8 rfl Yaa rfl Yab Xa;(exact Xm rfl);exact rfl))
   all_goals (refine X9 Yaa ?_)
   all_goals ((repeat' (first|refine Xe ?_|refine Xb ?_|refine Xc ?_|(apply Xn;(first|exact Xf rfl|exact Xm rfl|exact Ybj|exact Yae|exact Yah);exact rfl)|refine Xw ?_|(apply Xh;exact rfl;(apply Xi;first|(refine Xk (.one 0 rfl .nil) Tryz.func123 rfl (U0 _ _ _ Yaf) rfl ?_;rintro _ _ ⟨v1,rfl,rfl⟩)|(refine Xk (.one 0 rfl .nil) Tryz.func170 rfl (hx e1 _ _ Yaf) rfl ?_;rintro _ _ ⟨v1,rfl,rfl⟩)|(refine Xk (.one 0 rfl .nil) Tryz.func170 rfl (hx e2 _ _ Yaf) rfl ?_;rintro _ _ ⟨v1,rfl,rfl⟩)|(refine Xk (.one 0 rfl .nil) Tryz.func170 rfl (hx e3 _ _ Yaf) rfl ?_;rintro _ _ ⟨v1,rfl,rfl⟩))))))
   (refine ⟨.inr rfl,Vd rfl (.tmp rfl) ?_ ⟨_,rfl,rfl⟩⟩;simp only [List.append_assoc,List.cons_append,List.nil_append];first|exact .refl _|exact .cons _ (.refl _))
 have h0:T1 kd=0:=by unfold T1;rw [if_neg Yan,if_neg k8,if_neg k11]
 rw [h0] at hla
 obtain rfl:l=[]:=List.length_eq_zero_iff.1 hla
 obtain rfl:T=[]:=by rw [←hT];unfold Xas;simp [h0,k1,k2,k3,k4,k5,k6,k7,k8,k9,k10,k11]
 rw [List.append_nil]
 (repeat' (first|refine Xe ?_|refine Xb ?_|refine Xc ?_|(apply Xn;exact Ya9;exact rfl)|refine Xo ?_|refine Xs ?_|refine Xw ?_|(refine Xp rfl (fun hb=>?_) (fun hb=>?_)<;>(repeat (first|replace hb:=Xz hb|replace hb:=X0 hb))<;>(try (exfalso;contradiction)))))
 all_goals (try (exfalso;first|contradiction|omega))
 exact ⟨.inr rfl,Vd rfl (.tmp rfl) (.refl _) ⟨_,rfl,rfl⟩⟩
theorem pex13r: ∀k,PEx k
 | 0=>fun x v l h=>Wp (i:=1) rfl R4 fun h=>h.elim
 | k+1=>Xjp k (pex13r k) (Xjo k (pex13r k))
end Go.Proofs.YthdldeenpgeemaaGreatDoor
namespace Go.Proofs.YthdldeenpgeemaaGreatDoor
open Go Go.RowKit Go.Kx Go.Fr Go.Lx Go.Sx
theorem Xhg (k:Nat) (v:Value) (l:List TokD) (x:RoundD) (h:l.length+(Sx.roundT x).length≤70000):FnC Tryz.prog 121 [ex v,agg (V9 k x)] [wv v l] (Xfa (l++roundT x)):=by
 refine X3 Tryz.func121 rfl Tryz.ntmps121 rfl fun w0 F0 out=>?_
 unfold Sx.roundT at h ⊢
 simp only [List.length_append,List.length_cons,List.length_nil] at h
 (repeat' (first|(apply Wa 1;refine StopW.out ?_)|refine Xe ?_|refine Xb ?_|refine Xc ?_|(apply Xn;(exact Xm rfl);exact rfl)|(apply Xh;exact rfl;(apply Vp;refine W4 rfl ?_;intro _))))
 refine ⟨?_⟩
 refine X7 (Vq (k:=0) (t:=3) rfl rfl) ?_
 (refine Vh ([]) 11 rfl ?_)
 all_goals ((apply Xd 0 rfl Yaa rfl Yab Xa;(exact Xf rfl);exact rfl))
 all_goals ((apply Xd 1 rfl Yaa rfl Yab Xa;(exact Yae);exact rfl))
 all_goals ((apply Xv 2 rfl Yaa rfl Yaa Yab Xa;(exact Yag);exact rfl))
 all_goals ((apply Xd 4 rfl Yaa rfl Yab Xa;(exact Yae);exact rfl))
 all_goals ((apply Xv 5 rfl Yaa rfl Yaa Yab Xa;(exact Yag);exact rfl))
 all_goals ((apply Xd 7 rfl Yaa rfl Yab Xa;(exact Yae);exact rfl))
 all_goals ((apply Xv 8 rfl Yaa rfl Yaa Yab Xa;(exact Yag);exact rfl))
 all_goals ((apply Xu 3;exact Yaa;exact rfl;exact Xa;exact (fun _ _ h=>h);(apply Xi;(refine Xk (.one 0 rfl .nil) Tryz.func117 rfl (Ri _ _ _ _ Yan) rfl ?_;rintro _ _ ⟨v1,rfl,rfl⟩))))
 all_goals ((apply Xu 6;exact Yaa;exact rfl;exact Xa;exact (fun _ _ h=>h);(apply Xi;(refine Xk (.one 0 rfl .nil) Tryz.func124 rfl (Sp _ _ _ _ Yaf) rfl ?_;rintro _ _ ⟨v1,rfl,rfl⟩))))
 all_goals ((apply Xu 9;exact Yaa;exact rfl;exact Xa;exact (fun _ _ h=>h);(apply Xi;(refine Xk (.one 0 rfl .nil) Tryz.func124 rfl (Sp _ _ _ _ Yaf) rfl ?_;rintro _ _ ⟨v1,rfl,rfl⟩))))
 all_goals ((apply Xd 10 rfl Yaa rfl Yab Xa;(exact Xm rfl);exact rfl))
 all_goals (refine X9 Yaa ?_)
 (repeat' (first|(apply W2 2;refine StopW.out ?_)|refine Xe ?_))
 refine ⟨?_⟩
 refine V1 (fun z:Value=>([(0,ex z),(3,fp (V9 k x))],[wv z (l++[tkW wRound,tkW x.name,tkW wPanel,tkN x.panel,tkW wQuota,tkN x.quota]++Xb4 x.cut)])) (fun _=>True) ?_ fun z _=>?_
 · by_cases h1:x.cut=1
   · have e:Xb4 x.cut=[tkW wOver]:=by unfold Xb4;rw [if_pos h1]
     rw [e] at h ⊢
     simp only [List.length_cons,List.length_nil] at h
     (repeat' (first|refine Xe ?_|refine Xb ?_|refine Xc ?_|(apply Xn;exact Ya9;exact rfl)|(apply Xh;exact rfl;(apply Xi;(refine Xk (.one 0 rfl .nil) Tryz.func123 rfl (U0 _ _ _ Yaf) rfl ?_;rintro _ _ ⟨v1,rfl,rfl⟩)))|(refine Xp rfl (fun hb=>?_) (fun hb=>?_)<;>(repeat (first|replace hb:=Xz hb|replace hb:=X0 hb))<;>(try (exfalso;contradiction)))))
     all_goals (try (exfalso;first|contradiction|omega))
     refine Wo (Q:=fun _ _ _=>True) v1 Yd0 ?_
     simp only [List.append_assoc,List.cons_append,List.nil_append]
     exact Xg (by repeat (first|exact Xr|refine Xl rfl ?_)) (List.Sublist.refl _)
   by_cases h2:x.cut=2
   · have e:Xb4 x.cut=[tkW wUnder]:=by unfold Xb4;rw [if_neg h1,if_pos h2]
     rw [e] at h ⊢
     simp only [List.length_cons,List.length_nil] at h
     (repeat' (first|refine Xe ?_|refine Xb ?_|refine Xc ?_|(apply Xn;exact Ya9;exact rfl)|(apply Xh;exact rfl;(apply Xi;(refine Xk (.one 0 rfl .nil) Tryz.func123 rfl (U0 _ _ _ Yaf) rfl ?_;rintro _ _ ⟨v1,rfl,rfl⟩)))|(refine Xp rfl (fun hb=>?_) (fun hb=>?_)<;>(repeat (first|replace hb:=Xz hb|replace hb:=X0 hb))<;>(try (exfalso;contradiction)))))
     all_goals (try (exfalso;first|contradiction|omega))
     refine Wo (Q:=fun _ _ _=>True) v1 Yd0 ?_
     simp only [List.append_assoc,List.cons_append,List.nil_append]
     exact Xg (by repeat (first|exact Xr|refine Xl rfl ?_)) (List.Sublist.refl _)
   have e:Xb4 x.cut=[tkW wLots]:=by unfold Xb4;rw [if_neg h1,if_neg h2]
   rw [e] at h ⊢
   simp only [List.length_cons,List.length_nil] at h
   (repeat' (first|refine Xe ?_|refine Xb ?_|refine Xc ?_|(apply Xn;exact Ya9;exact rfl)|(apply Xh;exact rfl;(apply Xi;(refine Xk (.one 0 rfl .nil) Tryz.func123 rfl (U0 _ _ _ Yaf) rfl ?_;rintro _ _ ⟨v1,rfl,rfl⟩)))|(refine Xp rfl (fun hb=>?_) (fun hb=>?_)<;>(repeat (first|replace hb:=Xz hb|replace hb:=X0 hb))<;>(try (exfalso;contradiction)))))
   all_goals (try (exfalso;first|contradiction|omega))
   refine Wo (Q:=fun _ _ _=>True) v1 Yd0 ?_
   simp only [List.append_assoc,List.cons_append,List.nil_append]
   exact Xg (by repeat (first|exact Xr|refine Xl rfl ?_)) (List.Sublist.refl _)
 dsimp only
 (repeat' (first|(apply W2 7;refine StopW.out ?_)|refine Xe ?_))
 refine ⟨?_⟩
 refine V1 (fun z:Value=>([(0,ex z),(3,fp (V9 k x))],[wv z (l++[tkW wRound,tkW x.name,tkW wPanel,tkN x.panel,tkW wQuota,tkN x.quota]++Xb4 x.cut++(if x.free then [tkW wFree] else []))])) (fun _=>True) ?_ fun z _=>?_
 · by_cases hr:x.free=true
   rotate_left
   · rw [if_neg hr,List.append_nil]
     (repeat' (first|refine Xe ?_|refine Xb ?_|refine Xc ?_|(apply Xn;(first|exact Yag|exact Yae);exact rfl)|refine Xs ?_|(refine Xp rfl (fun hb=>?_) (fun hb=>?_)<;>(repeat (fail))<;>(try (exfalso;contradiction)))))
     all_goals (try (exfalso;first|contradiction|omega|(rw [hr] at hb;exact absurd hb Yao)))
     refine Wo (Q:=fun _ _ _=>True) z Yd0 ?_
     simp only [List.append_assoc,List.cons_append,List.nil_append]
     exact Xg (by repeat (first|exact Xr|refine Xl rfl ?_)) (List.Sublist.refl _)
   · rw [if_pos hr] at h
     rw [if_pos hr]
     simp only [List.length_cons,List.length_nil] at h
     (repeat' (first|refine Xe ?_|refine Xb ?_|refine Xc ?_|(apply Xn;exact Yc3;exact rfl)|refine Xs ?_|(apply Xh;exact rfl;(apply Xi;(refine Xk (.one 0 rfl .nil) Tryz.func123 rfl (U0 _ _ _ Yaf) rfl ?_;rintro _ _ ⟨v1,rfl,rfl⟩)))|(refine Xp rfl (fun hb=>?_) (fun hb=>?_)<;>(repeat (fail))<;>(try (exfalso;fail)))))
     all_goals (try (exfalso;first|contradiction|omega|(rw [hr] at hb;exact absurd hb Yao)))
     refine Wo (Q:=fun _ _ _=>True) v1 Yd0 ?_
     simp only [List.append_assoc,List.cons_append,List.nil_append]
     exact Xg (by repeat (first|exact Xr|refine Xl rfl ?_)) (List.Sublist.refl _)
 dsimp only
 (repeat' (first|(apply W2 9;refine StopW.out ?_)|refine Xe ?_))
 refine ⟨?_⟩
 refine V1 (fun z:Value=>([(0,ex z),(3,fp (V9 k x))],[wv z (l++[tkW wRound,tkW x.name,tkW wPanel,tkN x.panel,tkW wQuota,tkN x.quota]++Xb4 x.cut++(if x.free then [tkW wFree] else [])++(if x.places then [tkW wPlaces] else tkW wScore::exT' x.score))])) (fun _=>True) ?_ fun z _=>?_
 · by_cases hr:x.places=true
   rotate_left
   · rw [if_neg hr] at h
     rw [if_neg hr]
     simp only [List.length_cons] at h
     (repeat' (first|(apply Wa 11;refine StopW.out ?_)|refine Xe ?_|refine Xb ?_|refine Xc ?_|(apply Xn;(first|exact Yag|exact Yae);exact rfl)|(refine Xp rfl (fun hb=>?_) (fun hb=>?_)<;>(repeat (fail))<;>(try (exfalso;contradiction)))))
     all_goals (try (exfalso;first|contradiction|omega|(rw [hr] at hb;exact absurd hb Yao)))
     refine ⟨?_⟩
     (refine Vh ([]) 6 rfl ?_)
     all_goals ((apply Xd 0 rfl Yaa rfl Yab Xa;(exact Xf rfl);exact rfl))
     all_goals ((apply Xd 2 rfl Yaa rfl Yab Xa;(exact Yae);exact rfl))
     all_goals ((apply Xv 3 rfl Yaa rfl Yaa Yab Xa;(exact Yav);exact rfl))
     all_goals ((apply Xu 1;exact Yaa;exact rfl;exact Xa;exact (fun _ _ h=>h);(apply Xi;(refine Xk (.one 0 rfl .nil) Tryz.func123 rfl (U0 _ _ _ Yaf) rfl ?_;rintro _ _ ⟨v1,rfl,rfl⟩))))
     all_goals ((apply Xu 4;exact Yaa;exact rfl;exact Xa;exact (fun _ _ h=>h);(apply Xi;(refine Xk (.one 0 rfl .nil) Tryz.func170 rfl (pex13r k x.score _ _ Yaf) rfl ?_;rintro _ _ ⟨v1,rfl,rfl⟩))))
     all_goals ((apply Xd 5 rfl Yaa rfl Yab Xa;(exact Xm rfl);exact rfl))
     all_goals (refine X9 Yaa ?_)
     all_goals ((repeat' (fail)))
     refine Wo (Q:=fun _ _ _=>True) v1 Yd0 ?_
     simp only [List.append_assoc,List.cons_append,List.nil_append]
     exact Xg (by repeat (first|exact Xr|refine Xl rfl ?_)) (List.Sublist.refl _)
   · rw [if_pos hr] at h
     rw [if_pos hr]
     simp only [List.length_cons,List.length_nil] at h
     (repeat' (first|(apply Wa 11;refine StopW.out ?_)|refine Xe ?_|refine Xb ?_|refine Xc ?_|(apply Xn;exact Yc3;exact rfl)|(apply Xh;exact rfl;(apply Xi;(refine Xk (.one 0 rfl .nil) Tryz.func123 rfl (U0 _ _ _ Yaf) rfl ?_;rintro _ _ ⟨v1,rfl,rfl⟩)))|(refine Xp rfl (fun hb=>?_) (fun hb=>?_)<;>(repeat (fail))<;>(try (exfalso;fail)))))
     all_goals (try (exfalso;first|contradiction|omega|(rw [hr] at hb;exact absurd hb Yao)))
     refine Wo (Q:=fun _ _ _=>True) v1 Yd0 ?_
     simp only [List.append_assoc,List.cons_append,List.nil_append]
     exact Xg (by repeat (first|exact Xr|refine Xl rfl ?_)) (List.Sublist.refl _)
 dsimp only
 by_cases ht:x.tieNo=0
 · rw [if_pos ht] at h ⊢
   simp only [List.length_cons,List.length_nil] at h
   (repeat' (first|refine Xe ?_|refine Xb ?_|refine Xc ?_|(apply Xn;exact Ya9;exact rfl)|refine Xw ?_|(apply Xh;exact rfl;(apply Xi;first|(refine Xk (.one 0 rfl .nil) Tryz.func117 rfl (Ri _ _ _ _ Yaf) rfl ?_;rintro _ _ ⟨v1,rfl,rfl⟩)|(refine Xk (.one 0 rfl .nil) Tryz.func116 rfl (Ul _ _ _ Yaf) rfl ?_;rintro _ _ ⟨v1,rfl,rfl⟩)))|(refine Xp rfl (fun hb=>?_) (fun hb=>?_)<;>(repeat (first|replace hb:=Xz hb|replace hb:=X0 hb))<;>(try (exfalso;contradiction)))))
   all_goals (try (exfalso;first|contradiction|omega))
   (refine ⟨.inr rfl,Vd rfl (.tmp rfl) ?_ ⟨_,rfl,rfl⟩⟩;simp only [List.append_assoc,List.cons_append,List.nil_append];first|exact .refl _|exact .cons _ (.refl _))
 · rw [if_neg ht] at h ⊢
   simp only [List.length_nil] at h
   (repeat' (first|refine Xe ?_|refine Xb ?_|refine Xc ?_|(apply Xn;exact Ya9;exact rfl)|refine Xs ?_|refine Xw ?_|(apply Xh;exact rfl;(apply Xi;(refine Xk (.one 0 rfl .nil) Tryz.func116 rfl (Ul _ _ _ Yaf) rfl ?_;rintro _ _ ⟨v1,rfl,rfl⟩)))|(refine Xp rfl (fun hb=>?_) (fun hb=>?_)<;>(repeat (first|replace hb:=Xz hb|replace hb:=X0 hb))<;>(try (exfalso;contradiction)))))
   all_goals (try (exfalso;first|contradiction|omega))
   (refine ⟨.inr rfl,Vd rfl (.tmp rfl) ?_ ⟨_,rfl,rfl⟩⟩;simp only [List.append_assoc,List.cons_append,List.nil_append];first|exact .refl _|exact .cons _ (.refl _))
theorem Xk1 {α:Type} (g:α→List TokD) (xs:List α) {i:Nat} (h:i<xs.length):((xs.take i).flatMap g).length+(g xs[i]).length≤(xs.flatMap g).length:=by
 have e:=wfm_take g xs h
 have e2:(xs.flatMap g).length=((xs.take (i+1)).flatMap g).length+((xs.drop (i+1)).flatMap g).length:=by
   rw [←List.length_append,←List.flatMap_append,List.take_append_drop]
 rw [e2,e,List.length_append];omega
theorem Xk2 (k:Nat) (r:RulesD) (h:(V2 r).length≤70000):FnC Tryz.prog 38 [agg (Wq k r)] [] (Xfa (V2 r)):=by
 refine Wp (i:=0) rfl (Vo (i:=1) rfl Wu) fun hc0=>?_
 have hd0:r.crits.length * 64≤140737488355328:=hc0.2
 refine Wp (i:=0) rfl (Vo (i:=2) rfl Wu) fun hc1=>?_
 have hd1:r.bonus.length * 32≤140737488355328:=hc1.2
 refine Wp (i:=0) rfl (Vo (i:=3) rfl Wu) fun hc2=>?_
 have hd2:r.malus.length * 32≤140737488355328:=hc2.2
 refine Wp (i:=0) rfl (Vo (i:=4) rfl Wu) fun hc3=>?_
 have hd3:r.ties.length * 40≤140737488355328:=hc3.2
 refine Wp (i:=0) rfl (Vo (i:=5) rfl Wu) fun hc4=>?_
 have hd4:r.rounds.length * 136≤140737488355328:=hc4.2
 refine X3 Tryz.func38 rfl Tryz.ntmps38 rfl fun w0 F0 out=>?_
 unfold V2 at h ⊢
 simp only [List.length_append,List.length_cons,List.length_nil] at h
 (repeat' (first|(apply W2 1;refine StopW.out ?_)|refine Xe ?_|refine Xb ?_|refine Xc ?_|(apply Xn;(exact Xm rfl);exact rfl)|(apply Xh;exact rfl;(apply Vp;refine W4 rfl ?_;intro _))))
 refine ⟨?_⟩
 refine X7 (Vq (k:=0) (t:=1) rfl rfl) ?_
 refine X7 (env':=[(1,fp (Wq k r))]) (loc':=[wv (.slice none 0 0) []]) (Uq 40 4 (Xg (by repeat (first|exact Xr|refine Xl rfl ?_)) (List.Sublist.refl _))) ?_
 (repeat' (first|refine Xe ?_|refine Xb ?_|refine Xc ?_|(apply Xn;(first|exact Xm rfl|exact Yag|exact Yae);exact rfl)|refine Xo ?_|(apply Xh;exact rfl;(apply Xi;first|(refine Xk (.one 0 rfl .nil) Tryz.func117 rfl (Ri _ _ _ _ Yaf) rfl ?_;rintro _ _ ⟨v1,rfl,rfl⟩)|(refine Xk (.one 0 rfl .nil) Tryz.func116 rfl (Ul _ _ _ Yaf) rfl ?_;rintro _ _ ⟨v1,rfl,rfl⟩)))))
 refine Ws (fun z:Nat×Value=>([(1,fp (Wq k r)),(3,ex z.2),(4,exI .i64 (z.1:Int))],[wv z.2 ([tkW wCompetition,tkW r.name,tkS sSemi]++(r.crits.take z.1).flatMap T3)])) (fun z=>z.1≤r.crits.length) (fun z=>r.crits.length-z.1) (0,v1) ?_ (Nat.zero_le _) fun z hz=>?_
 · simp only [List.take_zero,List.flatMap_nil,List.append_nil]
   exact (Xg (by repeat (first|exact Xr|refine Xl rfl ?_)) (List.Sublist.refl _))
 obtain ⟨i,u4⟩:=z
 simp only at hz ⊢
 by_cases hlt:i<r.crits.length
 · have hn:=Xk1 T3 r.crits hlt
   (repeat' (first|refine Xe ?_|refine Xb ?_|refine Xc ?_|(apply Xn;exact Ycj;exact rfl)|refine Xo ?_|refine Xs ?_|(apply Xh;exact rfl;(apply Xi;(refine Xk (.one 0 rfl .nil) Tryz.func118 rfl (Xcm _ _ _ Yaf) rfl ?_;rintro _ _ ⟨v1,rfl,rfl⟩)))|(refine Xp rfl (fun hb=>?_) (fun hb=>?_)<;>(repeat (first|replace hb:=Xz hb|replace hb:=X0 hb))<;>(try (exfalso;omega)))))
   all_goals (try (exfalso;first|contradiction|omega))
   refine ⟨(i+1,v1),hlt,by show r.crits.length-(i+1)<r.crits.length-i;omega,?_⟩
   simp only [wfm_take _ _ hlt,←List.append_assoc]
   exact (Xg (by repeat (first|exact Xr|refine Xl rfl ?_)) (List.Sublist.refl _))
 obtain rfl:i=r.crits.length:=by omega
 rw [List.take_length]
 (repeat' (first|refine Xe ?_|refine Xb ?_|refine Xc ?_|(apply Xn;exact Ycn;exact rfl)|refine Xo ?_|refine Wm ?_|(refine Xp rfl (fun hb=>?_) (fun hb=>?_)<;>(repeat (first|replace hb:=Xz hb|replace hb:=X0 hb))<;>(try (exfalso;omega)))))
 all_goals (try (exfalso;first|contradiction|omega))
 refine Ws (fun z:Nat×Value=>([(1,fp (Wq k r)),(3,ex z.2),(5,exI .i64 (z.1:Int))],[wv z.2 ([tkW wCompetition,tkW r.name,tkS sSemi]++r.crits.flatMap T3++(r.bonus.take z.1).flatMap (Un wBonus))])) (fun z=>z.1≤r.bonus.length) (fun z=>r.bonus.length-z.1) (0,u4) ?_ (Nat.zero_le _) fun z hz=>?_
 · simp only [List.take_zero,List.flatMap_nil,List.append_nil]
   exact (Xg (by repeat (first|exact Xr|refine Xl rfl ?_)) (List.Sublist.refl _))
 obtain ⟨i,u5⟩:=z
 simp only at hz ⊢
 by_cases hlt:i<r.bonus.length
 · have hn:=Xk1 (Un wBonus) r.bonus hlt
   (repeat' (first|refine Xe ?_|refine Xb ?_|refine Xc ?_|(apply Xn;exact Ycj;exact rfl)|refine Xo ?_|refine Xs ?_|(apply Xh;exact rfl;(apply Xi;(refine Xk (.one 0 rfl .nil) Tryz.func119 rfl (Xdq _ _ wBonus _ Yaf) rfl ?_;rintro _ _ ⟨v1,rfl,rfl⟩)))|(refine Xp rfl (fun hb=>?_) (fun hb=>?_)<;>(repeat (first|replace hb:=Xz hb|replace hb:=X0 hb))<;>(try (exfalso;omega)))))
   all_goals (try (exfalso;first|contradiction|omega))
   refine ⟨(i+1,v1),hlt,by show r.bonus.length-(i+1)<r.bonus.length-i;omega,?_⟩
   simp only [wfm_take _ _ hlt,←List.append_assoc]
   exact (Xg (by repeat (first|exact Xr|refine Xl rfl ?_)) (List.Sublist.refl _))
 obtain rfl:i=r.bonus.length:=by omega
 rw [List.take_length]
 (repeat' (first|refine Xe ?_|refine Xb ?_|refine Xc ?_|(apply Xn;exact Ycn;exact rfl)|refine Xo ?_|refine Wm ?_|(refine Xp rfl (fun hb=>?_) (fun hb=>?_)<;>(repeat (first|replace hb:=Xz hb|replace hb:=X0 hb))<;>(try (exfalso;omega)))))
 all_goals (try (exfalso;first|contradiction|omega))
 refine Ws (fun z:Nat×Value=>([(1,fp (Wq k r)),(3,ex z.2),(6,exI .i64 (z.1:Int))],[wv z.2 ([tkW wCompetition,tkW r.name,tkS sSemi]++r.crits.flatMap T3++r.bonus.flatMap (Un wBonus)++(r.malus.take z.1).flatMap (Un wMalus))])) (fun z=>z.1≤r.malus.length) (fun z=>r.malus.length-z.1) (0,u5) ?_ (Nat.zero_le _) fun z hz=>?_
 · simp only [List.take_zero,List.flatMap_nil,List.append_nil]
   exact (Xg (by repeat (first|exact Xr|refine Xl rfl ?_)) (List.Sublist.refl _))
 obtain ⟨i,u6⟩:=z
 simp only at hz ⊢
 by_cases hlt:i<r.malus.length
 · have hn:=Xk1 (Un wMalus) r.malus hlt
   (repeat' (first|refine Xe ?_|refine Xb ?_|refine Xc ?_|(apply Xn;exact Ycj;exact rfl)|refine Xo ?_|refine Xs ?_|(apply Xh;exact rfl;(apply Xi;(refine Xk (.one 0 rfl .nil) Tryz.func119 rfl (Xdq _ _ wMalus _ Yaf) rfl ?_;rintro _ _ ⟨v1,rfl,rfl⟩)))|(refine Xp rfl (fun hb=>?_) (fun hb=>?_)<;>(repeat (first|replace hb:=Xz hb|replace hb:=X0 hb))<;>(try (exfalso;omega)))))
   all_goals (try (exfalso;first|contradiction|omega))
   refine ⟨(i+1,v1),hlt,by show r.malus.length-(i+1)<r.malus.length-i;omega,?_⟩
   simp only [wfm_take _ _ hlt,←List.append_assoc]
   exact (Xg (by repeat (first|exact Xr|refine Xl rfl ?_)) (List.Sublist.refl _))
 obtain rfl:i=r.malus.length:=by omega
 rw [List.take_length]
 (repeat' (first|refine Xe ?_|refine Xb ?_|refine Xc ?_|(apply Xn;exact Ycn;exact rfl)|refine Xo ?_|refine Wm ?_|(refine Xp rfl (fun hb=>?_) (fun hb=>?_)<;>(repeat (first|replace hb:=Xz hb|replace hb:=X0 hb))<;>(try (exfalso;omega)))))
 all_goals (try (exfalso;first|contradiction|omega))
 refine Ws (fun z:Nat×Value=>([(1,fp (Wq k r)),(3,ex z.2),(7,exI .i64 (z.1:Int))],[wv z.2 ([tkW wCompetition,tkW r.name,tkS sSemi]++r.crits.flatMap T3++r.bonus.flatMap (Un wBonus)++r.malus.flatMap (Un wMalus)++(r.ties.take z.1).flatMap Xbq)])) (fun z=>z.1≤r.ties.length) (fun z=>r.ties.length-z.1) (0,u6) ?_ (Nat.zero_le _) fun z hz=>?_
 · simp only [List.take_zero,List.flatMap_nil,List.append_nil]
   exact (Xg (by repeat (first|exact Xr|refine Xl rfl ?_)) (List.Sublist.refl _))
 obtain ⟨i,u7⟩:=z
 simp only at hz ⊢
 by_cases hlt:i<r.ties.length
 · have hn:=Xk1 Xbq r.ties hlt
   (repeat' (first|refine Xe ?_|refine Xb ?_|refine Xc ?_|(apply Xn;exact Ycj;exact rfl)|refine Xo ?_|refine Xs ?_|(apply Xh;exact rfl;(apply Xi;(refine Xk (.one 0 rfl .nil) Tryz.func120 rfl (Xk0 _ _ _ Yaf) rfl ?_;rintro _ _ ⟨v1,rfl,rfl⟩)))|(refine Xp rfl (fun hb=>?_) (fun hb=>?_)<;>(repeat (first|replace hb:=Xz hb|replace hb:=X0 hb))<;>(try (exfalso;omega)))))
   all_goals (try (exfalso;first|contradiction|omega))
   refine ⟨(i+1,v1),hlt,by show r.ties.length-(i+1)<r.ties.length-i;omega,?_⟩
   simp only [wfm_take _ _ hlt,←List.append_assoc]
   exact (Xg (by repeat (first|exact Xr|refine Xl rfl ?_)) (List.Sublist.refl _))
 obtain rfl:i=r.ties.length:=by omega
 rw [List.take_length]
 (repeat' (first|refine Xe ?_|refine Xb ?_|refine Xc ?_|(apply Xn;exact Ycn;exact rfl)|refine Xo ?_|refine Wm ?_|(refine Xp rfl (fun hb=>?_) (fun hb=>?_)<;>(repeat (first|replace hb:=Xz hb|replace hb:=X0 hb))<;>(try (exfalso;omega)))))
 all_goals (try (exfalso;first|contradiction|omega))
 refine Ws (fun z:Nat×Value=>([(1,fp (Wq k r)),(3,ex z.2),(8,exI .i64 (z.1:Int))],[wv z.2 ([tkW wCompetition,tkW r.name,tkS sSemi]++r.crits.flatMap T3++r.bonus.flatMap (Un wBonus)++r.malus.flatMap (Un wMalus)++r.ties.flatMap Xbq++(r.rounds.take z.1).flatMap Sx.roundT)])) (fun z=>z.1≤r.rounds.length) (fun z=>r.rounds.length-z.1) (0,u7) ?_ (Nat.zero_le _) fun z hz=>?_
 · simp only [List.take_zero,List.flatMap_nil,List.append_nil]
   exact (Xg (by repeat (first|exact Xr|refine Xl rfl ?_)) (List.Sublist.refl _))
 obtain ⟨i,u8⟩:=z
 simp only at hz ⊢
 by_cases hlt:i<r.rounds.length
 · have hn:=Xk1 Sx.roundT r.rounds hlt
   (repeat' (first|refine Xe ?_|refine Xb ?_|refine Xc ?_|(apply Xn;exact Ycj;exact rfl)|refine Xo ?_|refine Xs ?_|(apply Xh;exact rfl;(apply Xi;(refine Xk (.one 0 rfl .nil) Tryz.func121 rfl (Xhg k _ _ _ Yaf) rfl ?_;rintro _ _ ⟨v1,rfl,rfl⟩)))|(refine Xp rfl (fun hb=>?_) (fun hb=>?_)<;>(repeat (first|replace hb:=Xz hb|replace hb:=X0 hb))<;>(try (exfalso;omega)))))
   all_goals (try (exfalso;first|contradiction|omega))
   refine ⟨(i+1,v1),hlt,by show r.rounds.length-(i+1)<r.rounds.length-i;omega,?_⟩
   simp only [wfm_take _ _ hlt,←List.append_assoc]
   exact (Xg (by repeat (first|exact Xr|refine Xl rfl ?_)) (List.Sublist.refl _))
 obtain rfl:i=r.rounds.length:=by omega
 rw [List.take_length]
 (repeat' (first|(apply W2 22;refine StopW.out ?_)|refine Xe ?_|refine Xb ?_|refine Xc ?_|(apply Xn;(first|exact Xf rfl|exact Yag|exact Yae|exact Yam|exact Yaj);exact rfl)|refine Wm ?_|(refine Xp rfl (fun hb=>?_) (fun hb=>?_)<;>(repeat (first|replace hb:=Xz hb|replace hb:=X0 hb))<;>(try (exfalso;omega)))))
 all_goals (try (exfalso;first|contradiction|omega))
 refine ⟨?_⟩
 refine V1 (fun z:Value=>([(1,fp (Wq k r)),(3,ex z)],[wv z ([tkW wCompetition,tkW r.name,tkS sSemi]++r.crits.flatMap T3++r.bonus.flatMap (Un wBonus)++r.malus.flatMap (Un wMalus)++r.ties.flatMap Xbq++r.rounds.flatMap Sx.roundT++(if r.prizes=[] then [] else tkW wPrizes::commaT r.prizes++[tkS sSemi]))])) (fun _=>True) ?_ fun z _=>?_
 · by_cases hp:r.prizes=[]
   · rw [if_pos hp,List.append_nil]
     have hp2:r.prizes.length=0:=by rw [hp];rfl
     (repeat' (first|refine Xe ?_|refine Xb ?_|refine Xc ?_|(apply Xn;exact Ydv;exact rfl)|refine Xs ?_|(refine Xp rfl (fun hb=>?_) (fun hb=>?_)<;>(repeat (first|replace hb:=Xz hb|replace hb:=X0 hb))<;>(try (exfalso;omega)))))
     all_goals (try (exfalso;first|contradiction|omega))
     refine Wo (Q:=fun _ _ _=>True) u8 Yd0 ?_
     simp only [List.append_assoc,List.cons_append,List.nil_append]
     exact Xg (by repeat (first|exact Xr|refine Xl rfl ?_)) (List.Sublist.refl _)
   · rw [if_neg hp] at h ⊢
     have hp2:0<r.prizes.length:=List.length_pos_iff.2 hp
     simp only [List.length_append,List.length_cons,List.length_nil] at h
     (repeat' (first|(apply Wa 23;refine StopW.out ?_)|refine Xe ?_|refine Xb ?_|refine Xc ?_|(apply Xn;exact Ydv;exact rfl)|(refine Xp rfl (fun hb=>?_) (fun hb=>?_)<;>(repeat (first|replace hb:=Xz hb|replace hb:=X0 hb))<;>(try (exfalso;omega)))))
     all_goals (try (exfalso;first|contradiction|omega))
     refine ⟨?_⟩
     (refine Vh ([]) 7 rfl ?_)
     all_goals ((apply Xd 0 rfl Yaa rfl Yab Xa;(exact Xf rfl);exact rfl))
     all_goals ((apply Xd 2 rfl Yaa rfl Yab Xa;(exact Yae);exact rfl))
     all_goals ((apply Xv 3 rfl Yaa rfl Yaa Yab Xa;(exact Yag);exact rfl))
     all_goals ((apply Xu 1;exact Yaa;exact rfl;exact Xa;exact (fun _ _ h=>h);(apply Xi;(refine Xk (.one 0 rfl .nil) Tryz.func123 rfl (U0 _ _ _ Yaf) rfl ?_;rintro _ _ ⟨v1,rfl,rfl⟩))))
     all_goals ((apply Xu 4;exact Yaa;exact rfl;exact Xa;exact (fun _ _ h=>h);(apply Xi;(refine Xk (.one 0 rfl .nil) Tryz.func122 rfl (Xkz _ _ _ Yaf) rfl ?_;rintro _ _ ⟨v1,rfl,rfl⟩))))
     all_goals ((apply Xu 5;exact Yaa;exact rfl;exact Xa;exact (fun _ _ h=>h);(apply Xi;(refine Xk (.one 0 rfl .nil) Tryz.func116 rfl (Ul _ _ _ Yaf) rfl ?_;rintro _ _ ⟨v1,rfl,rfl⟩))))
     all_goals ((apply Xd 6 rfl Yaa rfl Yab Xa;(exact Xm rfl);exact rfl))
     all_goals (refine X9 Yaa ?_)
     all_goals ((repeat' (fail)))
     refine Wo (Q:=fun _ _ _=>True) v1 Yd0 ?_
     simp only [List.append_assoc,List.cons_append,List.nil_append]
     exact Xg (by repeat (first|exact Xr|refine Xl rfl ?_)) (List.Sublist.refl _)
 dsimp only
 by_cases hp:r.points=[]
 · rw [if_pos hp,List.append_nil]
   have hp2:r.points.length=0:=by rw [hp];rfl
   (repeat' (first|refine Xe ?_|refine Xb ?_|refine Xc ?_|(apply Xn;(first|exact Xf rfl|exact Xm rfl|exact Yag|exact Yae|exact Ybr|exact Yaj);exact rfl)|refine Xs ?_|refine Xw ?_|(refine Xp rfl (fun hb=>?_) (fun hb=>?_)<;>(repeat (first|replace hb:=Xz hb|replace hb:=X0 hb))<;>(try (exfalso;omega)))))
   all_goals (try (exfalso;first|contradiction|omega))
   (refine ⟨.inr rfl,Vd rfl (.tmp rfl) ?_ ⟨_,rfl,rfl⟩⟩;simp only [List.append_assoc,List.cons_append,List.nil_append];first|exact .refl _|exact .cons _ (.refl _))
 · rw [if_neg hp] at h ⊢
   have hp2:0<r.points.length:=List.length_pos_iff.2 hp
   simp only [List.length_append,List.length_cons,List.length_nil] at h
   (repeat' (first|(apply Wa 25;refine StopW.out ?_)|refine Xe ?_|refine Xb ?_|refine Xc ?_|(apply Xn;exact Ydv;exact rfl)|(refine Xp rfl (fun hb=>?_) (fun hb=>?_)<;>(repeat (first|replace hb:=Xz hb|replace hb:=X0 hb))<;>(try (exfalso;omega)))))
   all_goals (try (exfalso;first|contradiction|omega))
   refine ⟨?_⟩
   (refine Vh ([]) 10 rfl ?_)
   all_goals ((apply Xd 0 rfl Yaa rfl Yab Xa;(exact Xf rfl);exact rfl))
   all_goals ((apply Xd 2 rfl Yaa rfl Yab Xa;(exact Yae);exact rfl))
   all_goals ((apply Xv 3 rfl Yaa rfl Yaa Yab Xa;(exact Yag);exact rfl))
   all_goals ((apply Xd 5 rfl Yaa rfl Yab Xa;(exact Yae);exact rfl))
   all_goals ((apply Xv 6 rfl Yaa rfl Yaa Yab Xa;(exact Yag);exact rfl))
   all_goals ((apply Xu 1;exact Yaa;exact rfl;exact Xa;exact (fun _ _ h=>h);(apply Xi;(refine Xk (.one 0 rfl .nil) Tryz.func123 rfl (U0 _ _ _ Yaf) rfl ?_;rintro _ _ ⟨v1,rfl,rfl⟩))))
   all_goals ((apply Xu 4;exact Yaa;exact rfl;exact Xa;exact (fun _ _ h=>h);(apply Xi;(refine Xk (.one 0 rfl .nil) Tryz.func122 rfl (Xkz _ _ _ Yaf) rfl ?_;rintro _ _ ⟨v1,rfl,rfl⟩))))
   all_goals ((apply Xu 7;exact Yaa;exact rfl;exact Xa;exact (fun _ _ h=>h);(apply Xi;(refine Xk (.one 0 rfl .nil) Tryz.func124 rfl (Sp _ _ _ _ Yaf) rfl ?_;rintro _ _ ⟨v1,rfl,rfl⟩))))
   all_goals ((apply Xu 8;exact Yaa;exact rfl;exact Xa;exact (fun _ _ h=>h);(apply Xi;(refine Xk (.one 0 rfl .nil) Tryz.func116 rfl (Ul _ _ _ Yaf) rfl ?_;rintro _ _ ⟨v1,rfl,rfl⟩))))
   all_goals ((apply Xd 9 rfl Yaa rfl Yab Xa;(exact Xm rfl);exact rfl))
   all_goals (refine X9 Yaa ?_)
   all_goals ((repeat' (first|refine Xe ?_|refine Xb ?_|refine Xc ?_|(apply Xn;exact Yba;exact rfl)|refine Xw ?_)))
   (refine ⟨.inr rfl,Vd rfl (.tmp rfl) ?_ ⟨_,rfl,rfl⟩⟩;simp only [List.append_assoc,List.cons_append,List.nil_append];first|exact .refl _|exact .cons _ (.refl _))
end Go.Proofs.YthdldeenpgeemaaGreatDoor
namespace Go.Proofs.YthdldeenpgeemaaGreatDoor
open Go Go.RowKit Go.Kx Go.Fr Go.Lx Go.Sx
theorem Xf0 (k:Nat) (r:RulesD) (hlen:(V2 r).length≤70000):FnC Tryz.prog 16 [agg (Wq k r)] [] (fun p loc=>p=Xf9 (Sz r)∧loc=[]):=by
 have hT:=Xju (V2 r)
 refine X3 Tryz.func16 rfl Tryz.ntmps16 rfl fun w0 F0 out=>?_
 (repeat' (first|(apply W2 1;refine StopW.out ?_)|refine Xe ?_|refine Xb ?_|refine Xc ?_|(apply Xn;(exact Xm rfl);exact rfl)|(apply Xh;exact rfl;(apply Vp;refine W4 rfl ?_;intro _))))
 refine ⟨?_⟩
 refine X7 (Vq (k:=0) (t:=1) rfl rfl) ?_
 (repeat' (first|(apply W2 2;refine StopW.out ?_)|refine Xe ?_|refine Xb ?_|refine Xc ?_|(apply Xn;(first|exact Xm rfl|exact Yav);exact rfl)|(apply Xh;exact rfl;(apply Xi;(refine Xq Tryz.func38 rfl (Xk2 k r hlen) rfl ?_;rintro _ _ ⟨v1,rfl,rfl⟩)))))
 refine ⟨?_⟩
 refine X7 (env':=[(1,fp (Wq k r)),(4,ex v1)]) (loc':=[vec v1 40 4 (V2 r).length ((V2 r).flatMap Qa)]) (Xg (by repeat (first|exact Xr|refine Xl rfl ?_)) (by unfold wv;exact List.Sublist.refl _)) ?_
 refine X7 (Ro (k:=0) (t:=4) (E:=eTok) (V2 r) rfl rfl rfl rfl (hby:=by show _ * 40≤_;omega)) ?_
 refine X7 (env':=[(1,fp (Wq k r)),(4,isl eTok (V2 r))]) (loc':=[]) (Xg (by repeat (first|exact Xr|refine Xl rfl ?_)) (List.Sublist.refl _)) ?_
 by_cases hv:(V2 r).all V0=true
 · have e1:Xad (V2 r)=(joinF ((V2 r).map word),0):=by unfold Xad;rw [if_pos hv]
   rw [e1] at hT
   have hrd:=Xmd (l:=V2 r) (en:=0) (p:=⟨0,false,0⟩) hlen (List.all_eq_true.1 hv) ⟨Nat.zero_le _,fun _=>rfl⟩
   (repeat' (first|(apply W2 6;refine StopW.out ?_)|refine Xe ?_|refine Xb ?_|refine Xc ?_|(apply Xn;(first|exact Xf rfl|exact Xm rfl|exact Ybb|exact Ybo|exact Yay);exact rfl)|refine Xs ?_|refine Xy rfl ?_|(apply Xh;exact rfl;first|(apply Xi;first|(refine Xq Tryz.func39 rfl hT rfl ?_;rintro _ _ ⟨rfl,rfl⟩)|(refine Xq Tryz.func30 rfl hrd rfl ?_;rintro _ _ ⟨⟨k2,x,p1,hs,rfl⟩,rfl⟩))|(apply Wb;refine X8 ?_;intro _)|(apply Xt;first|refine Xj (k:=0) (l0:=[]) rfl rfl rfl ?_|refine Xj (k:=1) (l0:=[]) rfl rfl rfl ?_))))
   all_goals (try (exfalso;first|contradiction|omega))
   refine ⟨?_⟩
   rename_i b7 b8
   refine X7 (env':=[(1,fp (Wq k r)),(5,exT (joinF ((V2 r).map word))),(7,ex (.pointer (some ⟨b7,0,none⟩))),(8,ex (.pointer (some ⟨b8,0,none⟩)))]) (loc':=[row b8 65 5 (Vr (V2 r) 0 p1),row b7 29 9 (Wq k2 x)]) (Xg (by repeat (first|exact Xr|refine Xl rfl ?_)) (List.Sublist.refl _)) ?_
   refine X7 (Vq (k:=0) (t:=8) rfl rfl) ?_
   refine X7 (Vq (k:=0) (t:=7) rfl rfl) ?_
   obtain ⟨n1,bd,a1⟩:=p1
   cases bd
   · have hz:=(Xa6 hs).1 rfl
     by_cases hx:x=r
     · have hp:Sz r=(joinF ((V2 r).map word),0):=by unfold Sz;rw [hv,hz];simp [hx]
       rw [hp]
       (repeat' (first|refine Xe ?_|refine Xb ?_|refine Xc ?_|(apply Xn;exact Yew;exact rfl)|(apply W0;exact rfl;exact rfl;exact rfl;(first|exact Yav|exact Yaz);exact rfl)|refine Xs ?_|refine Xw ?_|(apply Vm;exact rfl;exact rfl;exact rfl;exact rfl;(apply Xi;(refine Xq Tryz.func13 rfl (Sv _ _ _ _) rfl ?_;rintro _ _ ⟨rfl,rfl⟩)))|(refine Xp rfl (fun hb=>?_) (fun hb=>?_)<;>(repeat (first|replace hb:=Xz hb|replace hb:=X0 hb|replace hb:=W5 hb|replace hb:=W6 hb))<;>(try (exfalso;contradiction)))))
       all_goals (try (exfalso;first|contradiction|omega))
       all_goals (exact ⟨.inr rfl,S8 rfl (.tmp rfl) (.tmp rfl) (List.nil_sublist _) ⟨rfl,rfl⟩⟩)
     · have hp:Sz r=([],130):=by unfold Sz;rw [hv,hz];simp [hx]
       rw [hp]
       (repeat' (first|refine Xe ?_|refine Xb ?_|refine Xc ?_|(apply Xn;exact Yew;exact rfl)|(apply W0;exact rfl;exact rfl;exact rfl;(first|exact Yav|exact Yaz);exact rfl)|refine Xw ?_|(apply Vm;exact rfl;exact rfl;exact rfl;exact rfl;(apply Xi;(refine Xq Tryz.func13 rfl (Sv _ _ _ _) rfl ?_;rintro _ _ ⟨rfl,rfl⟩)))|(refine Xp rfl (fun hb=>?_) (fun hb=>?_)<;>(repeat (first|replace hb:=Xz hb|replace hb:=X0 hb|replace hb:=W5 hb|replace hb:=W6 hb))<;>(try (exfalso;contradiction)))))
       all_goals (try (exfalso;first|contradiction|omega))
       all_goals (exact ⟨.inr rfl,S8 rfl (.tmp rfl) (.tmp rfl) (List.nil_sublist _) ⟨rfl,rfl⟩⟩)
   · have hz:=(Xa6 hs).2 rfl
     have hp:Sz r=([],130):=by unfold Sz;rw [hv,hz];simp
     rw [hp]
     (repeat' (first|refine Xe ?_|refine Xb ?_|refine Xc ?_|(apply Xn;(first|exact Xf rfl|exact Xm rfl|exact Wd (b:=true) rfl (fun _=>rfl) (fun e=>by cases e)|exact Yag|exact Yae);exact rfl)|(refine Wv rfl rfl rfl rfl rfl ?_)|refine Xw ?_|refine Xx rfl ?_))
     all_goals (try (exfalso;first|contradiction|omega))
     all_goals (exact ⟨.inr rfl,S8 rfl (.tmp rfl) (.tmp rfl) (List.nil_sublist _) ⟨rfl,rfl⟩⟩)
 · have e1:Xad (V2 r)=([],30):=by unfold Xad;rw [if_neg hv]
   rw [e1] at hT
   have hp:Sz r=([],130):=by unfold Sz;rw [Bool.not_eq_true] at hv;rw [hv];rfl
   rw [hp]
   (repeat' (first|refine Xe ?_|refine Xb ?_|refine Xc ?_|(apply Xn;(first|exact Xf rfl|exact Xm rfl|exact Ybb|exact Ybo);exact rfl)|refine Xw ?_|refine Xx rfl ?_|(apply Xh;exact rfl;(apply Xi;(refine Xq Tryz.func39 rfl hT rfl ?_;rintro _ _ ⟨rfl,rfl⟩)))))
   all_goals (try (exfalso;first|contradiction|omega))
   all_goals (exact ⟨.inr rfl,S8 rfl (.tmp rfl) (.tmp rfl) (List.nil_sublist _) ⟨rfl,rfl⟩⟩)
theorem Xal (k:Nat) (r:RulesD):FnC Tryz.prog 4 [agg (Wq k r)] [Lab] (fun p loc=>p=exB true∧loc=[]):=by
 refine X3 Tryz.func4 rfl Tryz.ntmps4 rfl fun w0 F0 out=>?_
 (repeat' (first|(apply W2 3;refine StopW.out ?_)|refine Xe ?_|refine Xb ?_|refine Xc ?_|(apply Xn;(first|exact Xm rfl|exact Yaz);exact rfl)|refine Xs ?_|refine Xy rfl ?_|(apply Xh;exact rfl;first|(apply Xi;(refine Xk (.dup 1 rfl rfl .nil) Tryz.func10 rfl sane13_any rfl ?_;rintro _ _ ⟨rfl,rfl⟩))|(apply Vp;refine W4 rfl ?_;intro _))))
 all_goals (try (exfalso;first|contradiction|omega))
 refine ⟨?_⟩
 refine X7 (Vq (k:=0) (t:=1) rfl rfl) ?_
 have hfw:=Xlb k r
 cases hfb:r.few13
 · rw [hfb] at hfw
   (repeat' (first|refine Xe ?_|refine Xb ?_|refine Xc ?_|(apply Xn;(first|exact Xm rfl|exact Yav|exact Yaz);exact rfl)|refine Xw ?_|refine Xx rfl ?_|(apply Xh;exact rfl;(apply Xi;(refine Xq Tryz.func14 rfl hfw rfl ?_;rintro _ _ ⟨rfl,rfl⟩)))))
   all_goals (try (exfalso;first|contradiction|omega))
   all_goals (refine ⟨.inr rfl,Vd rfl (.tmp rfl) (List.nil_sublist _) ⟨congrArg exB ?_,rfl⟩⟩)
   all_goals (first|rfl|(simp;done))
 · rw [hfb] at hfw
   have hpr:=fun k=>Ry k r (Xcp hfb)
   have hrp:=fun k=>Xf0 k r (Xcp hfb)
   generalize Sz r=z at hpr hrp
   unfold Xf9 at hpr hrp
   (repeat' (first|refine Xe ?_|refine Xb ?_|refine Xc ?_|(apply Xn;(first|exact Xf rfl|exact Xm rfl|exact Wd (b:=true) rfl (fun _=>rfl) (fun e=>by cases e)|exact Ybb|exact Yav|(apply Vx;exact Sy rfl rfl)|exact Yaz);exact rfl)|(apply W0;exact rfl;exact rfl;exact rfl;(first|exact Xf rfl|exact Yar);exact rfl)|refine Xs ?_|refine Xw ?_|refine Xy rfl ?_|(apply Xh;exact rfl;(apply Xi;first|(refine Xq Tryz.func14 rfl hfw rfl ?_;rintro _ _ ⟨rfl,rfl⟩)|(refine Xk (.dup 0 rfl rfl .nil) Tryz.func15 rfl (hpr _) rfl ?_;rintro _ _ ⟨rfl,rfl⟩)|(refine Xq Tryz.func16 rfl (hrp _) rfl ?_;rintro _ _ ⟨rfl,rfl⟩)))|(refine Wf rfl rfl (fun hb=>?_) (fun hb=>?_)<;>(repeat (first|replace hb:=Xz hb|replace hb:=X0 hb))<;>(try (exfalso;contradiction)))))
   all_goals (try (exfalso;first|contradiction|omega))
   all_goals (refine ⟨.inr rfl,Vd rfl (.tmp rfl) (List.nil_sublist _) ⟨congrArg exB ?_,rfl⟩⟩)
   all_goals (first|rfl|(simp;done))
end Go.Proofs.YthdldeenpgeemaaGreatDoor
