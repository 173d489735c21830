/- Chapter 13, the specification's parser: its state, and what a step of it is. No program in sight. -/
import Derived.Test.YthdldeenpgeemaaGreatDoorPartB
import Derived.Test.YthdldeenpgeemaaGreatDoorPart5
import Derived.Test.YthdldeenpgeemaaGreatDoorPart7
import Derived.Test.YthdldeenpgeemaaGreatDoorPart9
set_option maxHeartbeats 8000000
set_option maxRecDepth 100000
namespace Go.Sx
open Go.Lx Go.Fr
variable {α β σ:Type}
structure Pst where
 n:Nat
 bad:Bool
 at_:Int
structure POk (l:List TokD) (p:Pst):Prop where
 n:p.n≤l.length
 a:p.bad=false→p.at_=0
structure Step (l:List TokD) (en:Nat) (g:List TokD→Res α) (p:Pst) (x:α) (p':Pst):Prop where
 ok:POk l p'
 bad:p.bad=true→p'=p
 good:p.bad=false→match g (l.drop p.n) with
   | .ok (y,r)=>x=y∧p'.bad=false∧l.drop p'.n=r
   | .error e=>p'.bad=true∧p'.at_=Xcu en e
def tst (l:List TokD) (t:List TokD→Bool) (p:Pst):Bool:= !p.bad&&t (l.drop p.n)
variable {l:List TokD} {en:Nat} {p p1 p2:Pst}
theorem Step.bnd {f:List TokD→Res α} {g:α→List TokD→Res β} {x:α} {y:β} (h1:Step l en f p x p1) (h2:Step l en (g x) p1 y p2):Step l en (bnd f g) p y p2:=by
 refine ⟨h2.ok,fun hb=>(h2.bad (by rw [h1.bad hb];exact hb)).trans (h1.bad hb),fun hb=>?_⟩
 have g1:=h1.good hb
 cases hf:f (l.drop p.n) with
 | error e=>
   rw [hf] at g1
   have:=h2.bad g1.1
   subst this
   rw [X1 hf];exact g1
 | ok q=>
   obtain ⟨z,r⟩:=q
   rw [hf] at g1
   obtain ⟨rfl,g2,g3⟩:=g1
   have g4:=h2.good g2
   rw [g3] at g4
   rw [Wg hf];exact g4
theorem Step.ret {x:α} (h:POk l p):Step l en (ret x) p x p:=⟨h,fun _=>rfl,fun hb=>⟨rfl,hb,rfl⟩⟩
theorem Step.ifT {t:List TokD→Bool} {f g:List TokD→Res α} {x:α} (ht:tst l t p=true) (h:Step l en f p x p1):Step l en (fun ts=>if t ts then f ts else g ts) p x p1:=by
 refine ⟨h.ok,h.bad,fun hb=>?_⟩
 have h2:=h.good hb
 have h3:t (l.drop p.n)=true:=by unfold tst at ht;rw [hb] at ht;exact ht
 simp only [h3,if_true];exact h2
theorem Step.ifF {t:List TokD→Bool} {f g:List TokD→Res α} {x:α} (ht:tst l t p=false) (h:Step l en g p x p1):Step l en (fun ts=>if t ts then f ts else g ts) p x p1:=by
 refine ⟨h.ok,h.bad,fun hb=>?_⟩
 have h2:=h.good hb
 have h3:t (l.drop p.n)=false:=by unfold tst at ht;rw [hb] at ht;exact ht
 simp only [h3];exact h2
theorem Step.of_bad {g:List TokD→Res α} {x:α} (h:POk l p) (hb:p.bad=true):Step l en g p x p:=⟨h,fun _=>rfl,fun e=>by rw [hb] at e;cases e⟩
theorem Xm6 {ok:Bool} {f:List TokD→Res α}:gate ok f=bnd (gate ok (ret ())) fun _=>f:=by
 funext ts
 cases ok<;>rfl
theorem Step.gate {ok:Bool} {f:List TokD→Res α} {x:α} (h1:Step l en (Sx.gate ok (Sx.ret ())) p () p1) (h2:Step l en f p1 x p2):Step l en (Sx.gate ok f) p x p2:=by
 rw [Xm6];exact h1.bnd h2
theorem Step.as {f g:List TokD→Res α} {x:α} (h:Step l en f p x p1) (e: ∀ts,f ts=g ts):Step l en g p x p1:=by
 rwa [show g=f from funext fun ts=>(e ts).symm]
section
variable {test:List TokD→Bool} {item:σ→List TokD→Res σ} {s s1 y:σ}
theorem Step.run_stop (h0:test []=false) (hl: ∀s,Less (item s)) (ht:tst l test p=false) (h:POk l p):Step l en (Q9 test item s) p s p:=by
 refine ⟨h,fun _=>rfl,fun hb=>?_⟩
 have h3:test (l.drop p.n)=false:=by unfold tst at ht;rw [hb] at ht;exact ht
 rw [T4 h0 hl,if_neg (by rw [h3];decide)]
 exact ⟨rfl,hb,rfl⟩
theorem Step.run_go (h0:test []=false) (hl: ∀s,Less (item s)) (ht:tst l test p=true) (h1:Step l en (item s) p s1 p1) (h2:Step l en (Q9 test item s1) p1 y p2):Step l en (Q9 test item s) p y p2:=by
 have h3:=h1.bnd (g:=Q9 test item) h2
 refine ⟨h3.ok,h3.bad,fun hb=>?_⟩
 have h4:test (l.drop p.n)=true:=by unfold tst at ht;rw [hb] at ht;exact ht
 rw [T4 h0 hl,if_pos h4]
 exact h3.good hb
end
def Pst.left (l:List TokD) (p:Pst):Nat:=if p.bad then 0 else l.length-p.n+1
theorem Step.left {f:List TokD→Res α} {x:α} (hf:Less f) (h:Step l en f p x p1) (hb:p.bad=false):p1.left l<p.left l:=by
 have h1:=h.good hb
 cases hr:f (l.drop p.n) with
 | error e=>rw [hr] at h1;unfold Pst.left;rw [h1.1,hb];simp
 | ok q=>
   obtain ⟨z,r⟩:=q
   rw [hr] at h1
   have h2:=hf.lt hr
   obtain ⟨-,h3,h4⟩:=h1
   rw [←h4,List.length_drop,List.length_drop] at h2
   unfold Pst.left
   rw [h3,hb]
   simp only [Bool.false_eq_true,if_false]
   omega
theorem U2 {t:List TokD→Bool} (h:tst l t p=true):p.bad=false:=by
 unfold tst at h
 cases hb:p.bad
 · rfl
 · rw [hb] at h;cases h
def Qi (l:List TokD) (k:Int) (w:List UInt8) (p:Pst):Bool:= !p.bad&&match l.drop p.n with
 | t::_=>decide (t.kind=k)&&decide (t.text=w)
 | []=>false
theorem Xif {k:Int} {w:List UInt8} (h: ∀t∈l,t.text=w→(t.kind=k↔t.kind≠2)):Qi l k w p=tst l (isT w) p:=by
 unfold Qi tst
 cases p.bad
 · simp only [Bool.not_false,Bool.true_and]
   cases hd:l.drop p.n with
   | nil=>rfl
   | cons t r=>
     have ht:t∈l:=List.mem_of_mem_drop (by rw [hd];simp)
     show (decide (t.kind=k)&&decide (t.text=w))=(decide (t.kind≠2)&&decide (t.text=w))
     by_cases hw:t.text=w
     · rw [decide_eq_decide.2 (h t ht hw)]
     · rw [decide_eq_false hw,Bool.and_false,Bool.and_false]
 · rfl
theorem Xfu {w:List UInt8} (hv:Va l) (hw:1<w.length):Qi l 1 w p=tst l (isT w) p:=Xif fun t ht e=>by
 have h:=hv t ht
 unfold V0 at h
 constructor
 · intro h1;rw [h1];decide
 · intro h2
   by_cases h1:t.kind=1
   · exact h1
   · rw [if_neg h1,if_neg h2] at h
     by_cases h3:t.kind=3
     · rw [if_pos h3,e] at h
       simp only [Bool.and_eq_true,decide_eq_true_eq] at h
       omega
     · rw [if_neg h3] at h;cases h
theorem Xfv {w:List UInt8} (hv:Va l) (hw:Ru w=false):Qi l 3 w p=tst l (isT w) p:=Xif fun t ht e=>by
 have h:=hv t ht
 unfold V0 at h
 constructor
 · intro h1;rw [h1];decide
 · intro h2
   by_cases h1:t.kind=1
   · rw [if_pos h1,e,hw] at h;cases h
   · rw [if_neg h1,if_neg h2] at h
     by_cases h3:t.kind=3
     · exact h3
     · rw [if_neg h3] at h;cases h
def Pst.next (p:Pst):Pst:=⟨p.n+1,p.bad,p.at_⟩
def Pst.fail (l:List TokD) (en:Nat) (p:Pst):Pst:=if p.bad then p else ⟨p.n,true,Xcu en (l.drop p.n)⟩
theorem Step.fail (h:POk l p) {x:α}:Step l en (fun ts=> .error ts) p x (p.fail l en):=by
 unfold Pst.fail
 cases hb:p.bad
 · exact ⟨⟨h.n,fun e=>by cases e⟩,fun e=>(by rw [hb] at e;cases e),fun _=>⟨rfl,rfl⟩⟩
 · exact .of_bad h hb
theorem Xel {t:List TokD→Bool} (h0:t []=false) (h:tst l t p=true): ∃(hn:p.n<l.length),l.drop p.n=l[p.n]::l.drop (p.n+1):=by
 have hb:=U2 h
 unfold tst at h
 rw [hb] at h
 have hn:p.n<l.length:=Classical.byContradiction fun hn=>by
   rw [List.drop_eq_nil_of_le Yan,h0] at h;cases h
 exact ⟨hn,List.drop_eq_getElem_cons hn⟩
theorem POk.next (h:POk l p) (hn:p.n<l.length):POk l p.next:=⟨hn,h.a⟩
theorem Step.want {w:List UInt8} (h:POk l p) (ht:tst l (isT w) p=true):Step l en (Sx.want w) p () p.next:=by
 obtain ⟨hn,hd⟩:=Xel rfl ht
 have hb:=U2 ht
 have ht2:isT w (l.drop p.n)=true:=by unfold tst at ht;rw [hb] at ht;exact ht
 refine ⟨h.next hn,fun e=>(by rw [hb] at e;cases e),fun _=>?_⟩
 unfold Sx.want
 rw [if_pos ht2]
 exact ⟨rfl,hb,by rw [hd];rfl⟩
theorem Step.want_no {w:List UInt8} (h:POk l p) (ht:tst l (isT w) p=false):Step l en (Sx.want w) p () (p.fail l en):=by
 have hf:=Step.fail (en:=en) h (x:=())
 refine ⟨hf.ok,hf.bad,fun hb=>?_⟩
 have ht2:isT w (l.drop p.n)=false:=by unfold tst at ht;rw [hb] at ht;exact ht
 unfold Sx.want
 rw [if_neg (by rw [ht2];decide)]
 exact hf.good hb
theorem Step.name (h:POk l p) (ht:tst l isName p=true): ∃hn:p.n<l.length,Step l en Rs p l[p.n].text p.next:=by
 obtain ⟨hn,hd⟩:=Xel rfl ht
 have hb:=U2 ht
 have ht2:isName (l.drop p.n)=true:=by unfold tst at ht;rw [hb] at ht;exact ht
 refine ⟨hn,h.next hn,fun e=>(by rw [hb] at e;cases e),fun _=>?_⟩
 rw [hd] at ht2 ⊢
 unfold Rs
 simp only [ht2,if_true]
 exact ⟨trivial,hb,rfl⟩
theorem Step.name_no (h:POk l p) (ht:tst l isName p=false) {x:List UInt8}:Step l en Rs p x (p.fail l en):=by
 have hf:=Step.fail (en:=en) h (x:=x)
 refine ⟨hf.ok,hf.bad,fun hb=>?_⟩
 have ht2:isName (l.drop p.n)=false:=by unfold tst at ht;rw [hb] at ht;exact ht
 have:=hf.good hb
 cases hd:l.drop p.n with
 | nil=>rw [hd] at this;exact this
 | cons t r=>
   rw [hd] at this ht2
   unfold Rs
   simp only [ht2]
   exact this
theorem Step.num (h:POk l p) (ht:tst l isNum p=true): ∃hn:p.n<l.length,Step l en numP p l[p.n].n p.next:=by
 obtain ⟨hn,hd⟩:=Xel rfl ht
 have hb:=U2 ht
 have ht2:isNum (l.drop p.n)=true:=by unfold tst at ht;rw [hb] at ht;exact ht
 refine ⟨hn,h.next hn,fun e=>(by rw [hb] at e;cases e),fun _=>?_⟩
 rw [hd] at ht2 ⊢
 unfold numP
 simp only [ht2,if_true]
 exact ⟨trivial,hb,rfl⟩
theorem Step.num_no (h:POk l p) (ht:tst l isNum p=false) {x:Int}:Step l en numP p x (p.fail l en):=by
 have hf:=Step.fail (en:=en) h (x:=x)
 refine ⟨hf.ok,hf.bad,fun hb=>?_⟩
 have ht2:isNum (l.drop p.n)=false:=by unfold tst at ht;rw [hb] at ht;exact ht
 have:=hf.good hb
 cases hd:l.drop p.n with
 | nil=>rw [hd] at this;exact this
 | cons t r=>
   rw [hd] at this ht2
   unfold numP
   simp only [ht2]
   exact this
end Go.Sx
namespace Go.Fr
open Go.RowKit Go.Kx Go.Lx Go.Sx
abbrev Vr (l:List TokD) (en:Nat) (p:Pst):List SP:=[isl eTok l,exI .i64 (p.n:Int),exI .i64 (en:Int),exB p.bad,exI .i64 p.at_]
end Go.Fr
namespace Go.Proofs.YthdldeenpgeemaaGreatDoor
open Go Go.RowKit Go.Kx Go.Fr Go.Lx Go.Sx
variable {l:List TokD} {en:Nat} {p:Pst}
theorem Uj (hl:l.length≤70000) (hp:POk l p):FnC Tryz.prog 103 [agg (Vr l en p)] [] (fun q loc=>q=agg (Vr l en (p.fail l en))∧loc=[]):=by
 have hn:=hp.n
 refine X3 Tryz.func103 rfl Tryz.ntmps103 rfl fun w0 F0 out=>?_
 cases hb:p.bad
 · by_cases hlt:p.n<l.length
   · have hf:p.fail l en=⟨p.n,true,l[p.n].at_⟩:=by
       unfold Pst.fail
       rw [hb,List.drop_eq_getElem_cons hlt];rfl
     rw [hf]
     (repeat' (first|refine Xe ?_|refine Xb ?_|refine Xc ?_|(apply Xn;(first|exact Yco|exact Ya8|exact Yam|exact Yah|exact Yaj);exact rfl)|refine Xs ?_|refine Xw ?_|(apply Xh;exact rfl;first|(apply Vp;refine W4 rfl ?_;intro _)|(apply Wb;refine X8 ?_;intro _)|(apply Xt;first|refine Xj (k:=0) (l0:=[]) rfl rfl rfl ?_|refine Xj (k:=1) (l0:=[]) rfl rfl rfl ?_))|(refine Xp rfl (fun hb=>?_) (fun hb=>?_)<;>(repeat (first|replace hb:=Xz hb|replace hb:=X0 hb))<;>(try (exfalso;omega)))))
     all_goals (try (exfalso;first|contradiction|omega|(simp_all;done)))
     all_goals (exact ⟨.inr rfl,Vd rfl (.cella (k:=0) rfl rfl rfl rfl inferInstance rfl) (List.nil_sublist _) ⟨rfl,rfl⟩⟩)
   · have hf:p.fail l en=⟨p.n,true,(en:Int)⟩:=by
       unfold Pst.fail
       rw [hb,List.drop_eq_nil_of_le Yan];rfl
     rw [hf]
     (repeat' (first|refine Xe ?_|refine Xb ?_|refine Xc ?_|(apply Xn;(first|exact Ycd|exact Yad|exact Yam|exact Yaj);exact rfl)|refine Xs ?_|refine Xw ?_|(apply Xh;exact rfl;first|(apply Vp;refine W4 rfl ?_;intro _)|(apply Wb;refine X8 ?_;intro _)|(apply Xt;first|refine Xj (k:=0) (l0:=[]) rfl rfl rfl ?_|refine Xj (k:=1) (l0:=[]) rfl rfl rfl ?_))|(refine Xp rfl (fun hb=>?_) (fun hb=>?_)<;>(repeat (first|replace hb:=Xz hb|replace hb:=X0 hb))<;>(try (exfalso;omega)))))
     all_goals (try (exfalso;first|contradiction|omega|(simp_all;done)))
     all_goals (exact ⟨.inr rfl,Vd rfl (.cella (k:=0) rfl rfl rfl rfl inferInstance rfl) (List.nil_sublist _) ⟨rfl,rfl⟩⟩)
 · have hf:p.fail l en=p:=by unfold Pst.fail;rw [hb];rfl
   rw [hf]
   (repeat' (first|refine Xe ?_|refine Xb ?_|refine Xc ?_|(apply Xn;(first|exact Yco|exact Ya8|exact Yam|exact Yah|exact Yaj);exact rfl)|refine Xs ?_|refine Xw ?_|(apply Xh;exact rfl;first|(apply Vp;refine W4 rfl ?_;intro _)|(apply Wb;refine X8 ?_;intro _)|(apply Xt;first|refine Xj (k:=0) (l0:=[]) rfl rfl rfl ?_|refine Xj (k:=1) (l0:=[]) rfl rfl rfl ?_))|(refine Xp rfl (fun hb=>?_) (fun hb=>?_)<;>(repeat (first|replace hb:=Xz hb|replace hb:=X0 hb))<;>(try (exfalso;fail)))))
   all_goals (try (exfalso;first|contradiction|omega|(simp_all;done)))
   all_goals (exact ⟨.inr rfl,Vd rfl (.cella (k:=0) rfl rfl rfl rfl inferInstance rfl) (List.nil_sublist _) ⟨rfl,rfl⟩⟩)
theorem Q4 (_hl:l.length≤70000) (hp:POk l p) (k:Int) (w:List UInt8):FnC Tryz.prog 161 [agg (Vr l en p),exI .i64 k,exT w] [] (fun q loc=>q=exB (Qi l k w p)∧loc=[]):=by
 have hn:=hp.n
 refine X3 Tryz.func161 rfl Tryz.ntmps161 rfl fun w0 F0 out=>?_
 by_cases hlt:p.n<l.length
 · have hx:Qi l k w p=(!p.bad&&(decide (l[p.n].kind=k)&&decide (l[p.n].text=w))):=by
     unfold Qi
     rw [List.drop_eq_getElem_cons hlt]
   rw [hx]
   (repeat' (first|refine Xe ?_|refine Xb ?_|refine Xc ?_|(apply Xn;exact Ybh;exact rfl)|(refine Wv rfl rfl rfl rfl rfl ?_)|(apply W0;exact rfl;exact rfl;exact rfl;(first|exact Xf rfl|exact Ybm|exact Ya8|(apply Vx;first|exact Sy rfl rfl|exact S4 rfl rfl|exact Rw rfl rfl)|exact Yah|exact Yaj);exact rfl)|refine Xw ?_|(apply Xh;exact rfl;(apply Vp;refine W4 rfl ?_;intro _))|(refine Wf rfl rfl (fun hb=>?_) (fun hb=>?_)<;>(repeat (first|replace hb:=Xz hb|replace hb:=X0 hb|replace hb:=W5 hb|replace hb:=W6 hb))<;>(try (exfalso;omega)))))
   all_goals (try (exfalso;first|contradiction|omega))
   all_goals (refine ⟨.inr rfl,Vd rfl (.tmp rfl) (List.nil_sublist _) ⟨congrArg exB ?_,rfl⟩⟩)
   all_goals (simp [*])
 · have hx:Qi l k w p=false:=by
     unfold Qi
     rw [List.drop_eq_nil_of_le Yan,Bool.and_false]
   rw [hx]
   (repeat' (first|refine Xe ?_|refine Xb ?_|refine Xc ?_|(apply Xn;exact Ybh;exact rfl)|(refine Wv rfl rfl rfl rfl rfl ?_)|(apply W0;exact rfl;exact rfl;exact rfl;(first|exact Yai|exact Yad|exact Yam|exact Yaj);exact rfl)|refine Xw ?_|(apply Xh;exact rfl;(apply Vp;refine W4 rfl ?_;intro _))|(refine Wf rfl rfl (fun hb=>?_) (fun hb=>?_)<;>(repeat (first|replace hb:=Xz hb|replace hb:=X0 hb|replace hb:=W5 hb|replace hb:=W6 hb))<;>(try (exfalso;omega)))))
   all_goals (try (exfalso;first|contradiction|omega))
   all_goals (refine ⟨.inr rfl,Vd rfl (.tmp rfl) (List.nil_sublist _) ⟨congrArg exB ?_,rfl⟩⟩)
   all_goals (first|rfl|(simp [*];done)|(simp;omega))
theorem Xkt (hl:l.length≤70000) (hp:POk l p) (w:List UInt8):FnC Tryz.prog 95 [agg (Vr l en p),exT w] [] (fun q loc=>q=exB (Qi l 1 w p)∧loc=[]):=by
 refine X3 Tryz.func95 rfl Tryz.ntmps95 rfl fun w0 F0 out=>?_
 (repeat' (first|refine Xe ?_|refine Xb ?_|refine Xc ?_|(apply Xn;(first|exact Xf rfl|exact Xm rfl|exact Ybg);exact rfl)|refine Xw ?_|(apply Xh;exact rfl;first|(apply Xi;(refine Xq Tryz.func161 rfl (Q4 hl hp _ _) rfl ?_;rintro _ _ ⟨rfl,rfl⟩))|(apply Vp;refine W4 rfl ?_;intro _))))
 all_goals (exact ⟨.inr rfl,Vd rfl (.tmp rfl) (List.nil_sublist _) ⟨rfl,rfl⟩⟩)
theorem Xku (hl:l.length≤70000) (hp:POk l p) (w:List UInt8):FnC Tryz.prog 163 [agg (Vr l en p),exT w] [] (fun q loc=>q=exB (Qi l 3 w p)∧loc=[]):=by
 refine X3 Tryz.func163 rfl Tryz.ntmps163 rfl fun w0 F0 out=>?_
 (repeat' (first|refine Xe ?_|refine Xb ?_|refine Xc ?_|(apply Xn;(first|exact Xf rfl|exact Xm rfl|exact Ybg);exact rfl)|refine Xw ?_|(apply Xh;exact rfl;first|(apply Xi;(refine Xq Tryz.func161 rfl (Q4 hl hp _ _) rfl ?_;rintro _ _ ⟨rfl,rfl⟩))|(apply Vp;refine W4 rfl ?_;intro _))))
 all_goals (exact ⟨.inr rfl,Vd rfl (.tmp rfl) (List.nil_sublist _) ⟨rfl,rfl⟩⟩)
theorem Xoy {k:Int} {w:List UInt8} (h:Qi l k w p=true):p.n<l.length:=by
 unfold Qi at h
 refine Classical.byContradiction fun hn=>?_
 rw [List.drop_eq_nil_of_le Yan,Bool.and_false] at h;cases h
theorem Xfw (hl:l.length≤70000) (hp:POk l p) (k:Int) (w:List UInt8) (ht:Qi l k w p=tst l (isT w) p):FnC Tryz.prog 160 [agg (Vr l en p),exI .i64 k,exT w] [] (fun q loc=>(∃p',q=agg (Vr l en p')∧Step l en (want w) p () p')∧loc=[]):=by
 have hn:=hp.n
 refine X3 Tryz.func160 rfl Tryz.ntmps160 rfl fun w0 F0 out=>?_
 cases hb:Qi l k w p
 · (repeat' (first|refine Xe ?_|refine Xb ?_|refine Xc ?_|(apply Xn;(first|exact Xf rfl|exact Ycd|exact Yad|exact Ya7|exact Yaz);exact rfl)|refine Xs ?_|refine Xw ?_|(apply Xh;exact rfl;first|(apply Xi;first|(refine Xq Tryz.func161 rfl (Q4 hl hp _ _) rfl ?_;rintro _ _ ⟨rfl,rfl⟩)|(refine Xq Tryz.func103 rfl (Uj hl hp) rfl ?_;rintro _ _ ⟨rfl,rfl⟩))|(apply Vp;refine W4 rfl ?_;intro _)|(apply Wb;refine X8 ?_;intro _)|(apply Xt;first|refine Xj (k:=0) (l0:=[]) rfl rfl rfl ?_|refine Xj (k:=1) (l0:=[]) rfl rfl rfl ?_))|(refine Xp rfl (fun hb=>?_) (fun hb=>?_)<;>(repeat (first|replace hb:=W5 hb|replace hb:=W6 hb))<;>(try (exfalso;fail)))))
   all_goals (try (exfalso;first|contradiction|(simp_all;done)))
   all_goals (exact ⟨.inr rfl,Vd rfl (.cella (k:=0) rfl rfl rfl rfl inferInstance rfl) (List.nil_sublist _) ⟨⟨_,rfl,.want_no hp (ht ▸ hb)⟩,rfl⟩⟩)
 · have hlt:=Xoy hb
   (repeat' (first|refine Xe ?_|refine Xb ?_|refine Xc ?_|(apply Xn;(first|exact Xf rfl|exact Ycd|exact Yad|exact Ya7|exact Yaz);exact rfl)|refine Xs ?_|refine Xw ?_|(apply Xh;exact rfl;first|(apply Xi;first|(refine Xq Tryz.func161 rfl (Q4 hl hp _ _) rfl ?_;rintro _ _ ⟨rfl,rfl⟩)|(refine Xq Tryz.func103 rfl (Uj hl hp) rfl ?_;rintro _ _ ⟨rfl,rfl⟩))|(apply Vp;refine W4 rfl ?_;intro _)|(apply Wb;refine X8 ?_;intro _)|(apply Xt;first|refine Xj (k:=0) (l0:=[]) rfl rfl rfl ?_|refine Xj (k:=1) (l0:=[]) rfl rfl rfl ?_))|(refine Xp rfl (fun hb=>?_) (fun hb=>?_)<;>(repeat (first|replace hb:=W5 hb|replace hb:=W6 hb))<;>(try (exfalso;fail)))))
   all_goals (try (exfalso;first|contradiction|(simp_all;done)))
   all_goals (exact ⟨.inr rfl,Vd rfl (.cella (k:=0) rfl rfl rfl rfl inferInstance rfl) (List.nil_sublist _) ⟨⟨p.next,rfl,.want hp (ht ▸ hb)⟩,rfl⟩⟩)
theorem Xhe (hl:l.length≤70000) (hv:Va l) (hp:POk l p) (w:List UInt8) (hw:1<w.length):FnC Tryz.prog 101 [agg (Vr l en p),exT w] [] (fun q loc=>(∃p',q=agg (Vr l en p')∧Step l en (want w) p () p')∧loc=[]):=by
 have ht:Qi l 1 w p=tst l (isT w) p:=Xfu hv hw
 refine X3 Tryz.func101 rfl Tryz.ntmps101 rfl fun w0 F0 out=>?_
 (repeat' (first|refine Xe ?_|refine Xb ?_|refine Xc ?_|(apply Xn;(first|exact Xf rfl|exact Ya1);exact rfl)|refine Xw ?_|(apply Xh;exact rfl;first|(apply Xi;(refine Xq Tryz.func160 rfl (Xfw hl hp _ _ ht) rfl ?_;rintro _ _ ⟨⟨p',rfl,hs⟩,rfl⟩))|(apply Vp;refine W4 rfl ?_;intro _)|(apply Wb;refine X8 ?_;intro _)|(apply Xt;refine Xj (k:=0) (l0:=[]) rfl rfl rfl ?_))))
 all_goals (exact ⟨.inr rfl,Vd rfl (.cella (k:=0) rfl rfl rfl rfl inferInstance rfl) (List.nil_sublist _) ⟨⟨p',rfl,hs⟩,rfl⟩⟩)
theorem Xoz (hl:l.length≤70000) (hv:Va l) (hp:POk l p) (w:List UInt8) (hw:Ru w=false):FnC Tryz.prog 94 [agg (Vr l en p),exT w] [] (fun q loc=>(∃p',q=agg (Vr l en p')∧Step l en (want w) p () p')∧loc=[]):=by
 have ht:Qi l 3 w p=tst l (isT w) p:=Xfv hv hw
 refine X3 Tryz.func94 rfl Tryz.ntmps94 rfl fun w0 F0 out=>?_
 (repeat' (first|refine Xe ?_|refine Xb ?_|refine Xc ?_|(apply Xn;(first|exact Xf rfl|exact Ya1);exact rfl)|refine Xw ?_|(apply Xh;exact rfl;first|(apply Xi;(refine Xq Tryz.func160 rfl (Xfw hl hp _ _ ht) rfl ?_;rintro _ _ ⟨⟨p',rfl,hs⟩,rfl⟩))|(apply Vp;refine W4 rfl ?_;intro _)|(apply Wb;refine X8 ?_;intro _)|(apply Xt;refine Xj (k:=0) (l0:=[]) rfl rfl rfl ?_))))
 all_goals (exact ⟨.inr rfl,Vd rfl (.cella (k:=0) rfl rfl rfl rfl inferInstance rfl) (List.nil_sublist _) ⟨⟨p',rfl,hs⟩,rfl⟩⟩)
end Go.Proofs.YthdldeenpgeemaaGreatDoor
namespace Go.Proofs.YthdldeenpgeemaaGreatDoor
open Go Go.RowKit Go.Kx Go.Fr Go.Lx Go.Sx
variable {l:List TokD} {en:Nat} {p:Pst}
theorem words13r:FnC Tryz.prog 229 [] [] (fun p loc=>p=isl eStr wordsL∧loc=[]):=by
 refine X3 Tryz.func229 rfl Tryz.ntmps229 rfl fun w0 F0 out=>?_
 (repeat' (first|(apply X4 0;refine Wj (k:=0) (E:=eStr) (t:=1) wordsL rfl rfl rfl rfl ?_ (hc:=by decide) (hby:=by decide))|refine Xe ?_|refine Xb ?_|refine Xc ?_|(apply Xn;(exact Xm rfl);exact rfl)|refine Xw ?_|(apply Xh;exact rfl;(apply X5;(refine Wi rfl Yac ?_);intro _))))
 all_goals exact ⟨.inr rfl,Vd rfl (.tmp rfl) (List.nil_sublist _) ⟨rfl,rfl⟩⟩
theorem wordsL_len:wordsL.length=38:=by decide
theorem Xhf (s:List UInt8):FnC Tryz.prog 213 [exT s] [] (fun q loc=>q=exB (Us s)∧loc=[]):=by
 refine X3 Tryz.func213 rfl Tryz.ntmps213 rfl fun w0 F0 out=>?_
 have hgen: ∃ws,ws=wordsL∧ws.length=38:=⟨_,rfl,wordsL_len⟩
 obtain ⟨ws,hws,hwl⟩:=hgen
 have hW:FnC Tryz.prog 229 [] [] (fun p loc=>p=isl eStr ws∧loc=[]):=by rw [hws];exact words13r
 have hR:Us s=decide (s∈ws):=by rw [hws];rfl
 rw [hR]
 clear hws hR
 (repeat' (first|refine Xe ?_|refine Xb ?_|refine Xc ?_|(apply Xn;(exact Xm rfl);exact rfl)|refine Xo ?_|(apply Xh;exact rfl;(apply Xi;(refine Xq Tryz.func229 rfl hW rfl ?_;rintro _ _ ⟨rfl,rfl⟩)))))
 refine Ws (fun k:Nat=>([(0,exT s),(3,isl eStr ws),(4,exI .i64 (k:Int))],[])) (fun k=>k≤ws.length∧ ∀j (h:j<k) (h2:j<ws.length),ws[j]≠s) (fun k=>ws.length-k) 0 ?_ ⟨Nat.zero_le _,fun j h=>absurd h (Nat.not_lt_zero j)⟩ fun k hk=>?_
 · exact Xg (by repeat (first|exact Xr|refine Xl rfl ?_)) (List.Sublist.refl _)
 obtain ⟨hk,hn⟩:=hk
 by_cases hlt:k<ws.length
 · by_cases he:ws[k]=s
   · (repeat' (first|refine Xe ?_|refine Xb ?_|refine Xc ?_|(apply Xn;(first|exact Xf rfl|exact Xm rfl|exact Yag|(apply Vx;first|exact Sy rfl rfl|exact S4 rfl rfl)|exact Yah|exact Yaj);exact rfl)|refine Xo ?_|refine Xs ?_|refine Xw ?_|(refine Xp rfl (fun hb=>?_) (fun hb=>?_)<;>(repeat (first|replace hb:=Xz hb|replace hb:=X0 hb))<;>(try (exfalso;first|contradiction|omega)))))
     all_goals (try (exfalso;simp_all;done))
     refine ⟨.inr rfl,Vd rfl (.tmp rfl) (List.nil_sublist _) ⟨congrArg exB ?_,rfl⟩⟩
     exact (decide_eq_true (he ▸ List.getElem_mem hlt)).symm
   · (repeat' (first|refine Xe ?_|refine Xb ?_|refine Xc ?_|(apply Xn;(first|exact Xf rfl|exact Xm rfl|exact Yag|exact Yeb|exact Yah|exact Yaj);exact rfl)|refine Xo ?_|refine Xs ?_|(refine Xp rfl (fun hb=>?_) (fun hb=>?_)<;>(repeat (first|replace hb:=Xz hb|replace hb:=X0 hb))<;>(try (exfalso;first|contradiction|omega)))))
     all_goals (try (exfalso;simp_all;done))
     exact ⟨k+1,⟨by omega,fun j h h2=>by
       by_cases e:j=k
       · subst e;exact he
       · exact hn j Yan h2⟩,by omega,Xg (by repeat (first|exact Xr|refine Xl rfl ?_)) (List.Sublist.refl _)⟩
 · have hk9:k=ws.length:=by omega
   subst hk9
   (repeat' (first|refine Xe ?_|refine Xb ?_|refine Xc ?_|(apply Xn;exact Yc2;exact rfl)|refine Xw ?_|refine Wm ?_|(refine Xp rfl (fun hb=>?_) (fun hb=>?_)<;>(repeat (first|replace hb:=Xz hb|replace hb:=X0 hb))<;>(try (exfalso;omega)))))
   refine ⟨.inr rfl,Vd rfl (.tmp rfl) (List.nil_sublist _) ⟨congrArg exB ?_,rfl⟩⟩
   refine (decide_eq_false fun hm=>?_).symm
   obtain ⟨j,hj,e⟩:=List.getElem_of_mem hm
   exact hn j hj hj e
theorem Xay (hl:l.length≤70000) (hp:POk l p):FnC Tryz.prog 191 [agg (Vr l en p)] [] (fun q loc=>q=exB (tst l Sx.isName p)∧loc=[]):=by
 have hn:=hp.n
 refine X3 Tryz.func191 rfl Tryz.ntmps191 rfl fun w0 F0 out=>?_
 by_cases hlt:p.n<l.length
 · have hx:tst l Sx.isName p=(!p.bad&&(decide (l[p.n].kind=1)&& !Us l[p.n].text)):=by
     unfold tst
     rw [List.drop_eq_getElem_cons hlt,Xce]
   rw [hx]
   (repeat' (first|refine Xe ?_|refine Xb ?_|refine Xc ?_|(apply Xn;exact Ybh;exact rfl)|(refine Wv rfl rfl rfl rfl rfl ?_)|(apply W0;exact rfl;exact rfl;exact rfl;(first|exact Ybm|exact Ya8|exact Ycv|exact Yah|exact Yaj|exact Yaz);exact rfl)|refine Xw ?_|(apply Xh;exact rfl;(apply Vp;refine W4 rfl ?_;intro _))|(apply Vm;exact rfl;exact rfl;exact rfl;exact rfl;(apply Xi;(refine Xq Tryz.func213 rfl (Xhf _) rfl ?_;rintro _ _ ⟨rfl,rfl⟩)))|(refine Wf rfl rfl (fun hb=>?_) (fun hb=>?_)<;>(repeat (first|replace hb:=Xz hb|replace hb:=X0 hb|replace hb:=W5 hb|replace hb:=W6 hb))<;>(try (exfalso;omega)))))
   all_goals (try (exfalso;first|contradiction|omega))
   all_goals (refine ⟨.inr rfl,Vd rfl (.tmp rfl) (List.nil_sublist _) ⟨congrArg exB ?_,rfl⟩⟩)
   all_goals (simp [*])
 · have hx:tst l Sx.isName p=false:=by
     unfold tst
     rw [List.drop_eq_nil_of_le Yan,show Sx.isName []=false from rfl,Bool.and_false]
   rw [hx]
   (repeat' (first|refine Xe ?_|refine Xb ?_|refine Xc ?_|(apply Xn;exact Ybh;exact rfl)|(refine Wv rfl rfl rfl rfl rfl ?_)|(apply W0;exact rfl;exact rfl;exact rfl;(first|exact Yai|exact Yad|exact Yam|exact Yaj);exact rfl)|refine Xw ?_|(apply Xh;exact rfl;(apply Vp;refine W4 rfl ?_;intro _))|(refine Wf rfl rfl (fun hb=>?_) (fun hb=>?_)<;>(repeat (first|replace hb:=Xz hb|replace hb:=X0 hb|replace hb:=W5 hb|replace hb:=W6 hb))<;>(try (exfalso;omega)))))
   all_goals (try (exfalso;first|contradiction|omega))
   all_goals (refine ⟨.inr rfl,Vd rfl (.tmp rfl) (List.nil_sublist _) ⟨congrArg exB ?_,rfl⟩⟩)
   all_goals (first|rfl|(simp [*];done)|(simp;omega))
theorem Tt (hl:l.length≤70000) (hp:POk l p):FnC Tryz.prog 193 [agg (Vr l en p)] [] (fun q loc=>q=exB (tst l isNum p)∧loc=[]):=by
 have hn:=hp.n
 refine X3 Tryz.func193 rfl Tryz.ntmps193 rfl fun w0 F0 out=>?_
 by_cases hlt:p.n<l.length
 · have hx:tst l isNum p=(!p.bad&&decide (l[p.n].kind=2)):=by
     unfold tst
     rw [List.drop_eq_getElem_cons hlt,Xbd]
   rw [hx]
   (repeat' (first|refine Xe ?_|refine Xb ?_|refine Xc ?_|(apply Xn;exact Ybh;exact rfl)|(refine Wv rfl rfl rfl rfl rfl ?_)|(apply W0;exact rfl;exact rfl;exact rfl;(first|exact Ybm|exact Ya8|exact Ycv|exact Yah|exact Yaj);exact rfl)|refine Xw ?_|(apply Xh;exact rfl;(apply Vp;refine W4 rfl ?_;intro _))|(refine Wf rfl rfl (fun hb=>?_) (fun hb=>?_)<;>(repeat (first|replace hb:=Xz hb|replace hb:=X0 hb|replace hb:=W5 hb|replace hb:=W6 hb))<;>(try (exfalso;omega)))))
   all_goals (try (exfalso;first|contradiction|omega))
   all_goals (refine ⟨.inr rfl,Vd rfl (.tmp rfl) (List.nil_sublist _) ⟨congrArg exB ?_,rfl⟩⟩)
   all_goals (simp [*])
 · have hx:tst l isNum p=false:=by
     unfold tst
     rw [List.drop_eq_nil_of_le Yan,show isNum []=false from rfl,Bool.and_false]
   rw [hx]
   (repeat' (first|refine Xe ?_|refine Xb ?_|refine Xc ?_|(apply Xn;exact Ybh;exact rfl)|(refine Wv rfl rfl rfl rfl rfl ?_)|(apply W0;exact rfl;exact rfl;exact rfl;(first|exact Yai|exact Yad|exact Yam|exact Yaj);exact rfl)|refine Xw ?_|(apply Xh;exact rfl;(apply Vp;refine W4 rfl ?_;intro _))|(refine Wf rfl rfl (fun hb=>?_) (fun hb=>?_)<;>(repeat (first|replace hb:=Xz hb|replace hb:=X0 hb|replace hb:=W5 hb|replace hb:=W6 hb))<;>(try (exfalso;omega)))))
   all_goals (try (exfalso;first|contradiction|omega))
   all_goals (refine ⟨.inr rfl,Vd rfl (.tmp rfl) (List.nil_sublist _) ⟨congrArg exB ?_,rfl⟩⟩)
   all_goals (first|rfl|(simp [*];done)|(simp;omega))
theorem Xkv (hl:l.length≤70000) (hp:POk l p):FnC Tryz.prog 159 [agg (Vr l en p)] [] (fun q loc=>(∃x p',q=tup [exT x,agg (Vr l en p')]∧Step l en Rs p x p')∧loc=[]):=by
 have hn:=hp.n
 refine X3 Tryz.func159 rfl Tryz.ntmps159 rfl fun w0 F0 out=>?_
 cases ht:tst l Sx.isName p
 · have hE:=Step.name_no (en:=en) hp ht (x:=[])
   (repeat' (first|refine Xe ?_|refine Xb ?_|refine Xc ?_|(apply Xn;(first|exact Xm rfl|exact Ycd|exact Yad|exact Yaz);exact rfl)|refine Xs ?_|refine Xw ?_|(apply Xh;exact rfl;first|(apply Xi;first|(refine Xq Tryz.func191 rfl (Xay hl hp) rfl ?_;rintro _ _ ⟨rfl,rfl⟩)|(refine Xq Tryz.func103 rfl (Uj hl hp) rfl ?_;rintro _ _ ⟨rfl,rfl⟩))|(apply Vp;refine W4 rfl ?_;intro _)|(apply Wb;refine X8 ?_;intro _)|(apply Xt;refine Xj (k:=0) (l0:=[]) rfl rfl rfl ?_))|(refine Xp rfl (fun hb=>?_) (fun hb=>?_)<;>(repeat (first|replace hb:=W5 hb|replace hb:=W6 hb))<;>(try (exfalso;fail)))))
   all_goals (try (exfalso;first|contradiction|(simp_all;done)))
   all_goals (exact Yas)
 · obtain ⟨hlt,hE⟩:=Step.name (en:=en) hp ht
   (repeat' (first|(apply Wa 5;refine Stop.out ?_)|refine Xe ?_|refine Xb ?_|refine Xc ?_|(apply Xn;(first|exact Xm rfl|exact Yco|exact Ya8|exact Ya7|exact Yah|exact Yaz);exact rfl)|refine Xs ?_|refine Xw ?_|(apply Xh;exact rfl;first|(apply Xi;first|(refine Xq Tryz.func191 rfl (Xay hl hp) rfl ?_;rintro _ _ ⟨rfl,rfl⟩)|(refine Xq Tryz.func103 rfl (Uj hl hp) rfl ?_;rintro _ _ ⟨rfl,rfl⟩))|(apply Vp;refine W4 rfl ?_;intro _)|(apply Wb;refine X8 ?_;intro _)|(apply Xt;first|refine Xj (k:=0) (l0:=[]) rfl rfl rfl ?_|refine Xj (k:=1) (l0:=[]) rfl rfl rfl ?_))|(refine Xp rfl (fun hb=>?_) (fun hb=>?_)<;>(repeat (first|replace hb:=W5 hb|replace hb:=W6 hb))<;>(try (exfalso;fail)))))
   all_goals (try (exfalso;first|contradiction|(simp_all;done)))
   refine ⟨?_⟩
   (refine Wt 3 rfl ?_)
   all_goals ((apply Xd 0 rfl Yaa rfl Yab Xa;(exact Xf rfl);exact rfl))
   all_goals ((apply Xv 1 rfl Yaa rfl Yaa Yab Xa;(exact Ya1);exact rfl))
   all_goals ((apply Xd 2 rfl Yaa rfl Yab Xa;(exact Xm rfl);exact rfl))
   all_goals ((apply Xu 3;exact Yaa;exact rfl;exact Xa;exact (fun h=>absurd h Yao);(apply Xt;refine Xj (k:=0) (l0:=[]) rfl rfl rfl ?_)))
   all_goals (refine X9 Yaa ?_)
   all_goals ((repeat' (refine Xw ?_)))
   all_goals (exact Yas)
theorem Xfx (hl:l.length≤70000) (hp:POk l p):FnC Tryz.prog 165 [agg (Vr l en p)] [] (fun q loc=>(∃x p',q=tup [exI .i64 x,agg (Vr l en p')]∧Step l en numP p x p')∧loc=[]):=by
 have hn:=hp.n
 refine X3 Tryz.func165 rfl Tryz.ntmps165 rfl fun w0 F0 out=>?_
 cases ht:tst l isNum p
 · have hE:=Step.num_no (en:=en) hp ht (x:=0)
   (repeat' (first|refine Xe ?_|refine Xb ?_|refine Xc ?_|(apply Xn;(first|exact Xm rfl|exact Ycd|exact Yad|exact Yaz);exact rfl)|refine Xs ?_|refine Xw ?_|(apply Xh;exact rfl;first|(apply Xi;first|(refine Xq Tryz.func193 rfl (Tt hl hp) rfl ?_;rintro _ _ ⟨rfl,rfl⟩)|(refine Xq Tryz.func103 rfl (Uj hl hp) rfl ?_;rintro _ _ ⟨rfl,rfl⟩))|(apply Vp;refine W4 rfl ?_;intro _)|(apply Wb;refine X8 ?_;intro _)|(apply Xt;refine Xj (k:=0) (l0:=[]) rfl rfl rfl ?_))|(refine Xp rfl (fun hb=>?_) (fun hb=>?_)<;>(repeat (first|replace hb:=W5 hb|replace hb:=W6 hb))<;>(try (exfalso;fail)))))
   all_goals (try (exfalso;first|contradiction|(simp_all;done)))
   all_goals (exact Yas)
 · obtain ⟨hlt,hE⟩:=Step.num (en:=en) hp ht
   (repeat' (first|(apply Wa 5;refine Stop.out ?_)|refine Xe ?_|refine Xb ?_|refine Xc ?_|(apply Xn;(first|exact Xm rfl|exact Yco|exact Ya8|exact Ya7|exact Yah|exact Yaz);exact rfl)|refine Xs ?_|refine Xw ?_|(apply Xh;exact rfl;first|(apply Xi;first|(refine Xq Tryz.func193 rfl (Tt hl hp) rfl ?_;rintro _ _ ⟨rfl,rfl⟩)|(refine Xq Tryz.func103 rfl (Uj hl hp) rfl ?_;rintro _ _ ⟨rfl,rfl⟩))|(apply Vp;refine W4 rfl ?_;intro _)|(apply Wb;refine X8 ?_;intro _)|(apply Xt;first|refine Xj (k:=0) (l0:=[]) rfl rfl rfl ?_|refine Xj (k:=1) (l0:=[]) rfl rfl rfl ?_))|(refine Xp rfl (fun hb=>?_) (fun hb=>?_)<;>(repeat (first|replace hb:=W5 hb|replace hb:=W6 hb))<;>(try (exfalso;fail)))))
   all_goals (try (exfalso;first|contradiction|(simp_all;done)))
   refine ⟨?_⟩
   (refine Wt 3 rfl ?_)
   all_goals ((apply Xd 0 rfl Yaa rfl Yab Xa;(exact Xf rfl);exact rfl))
   all_goals ((apply Xv 1 rfl Yaa rfl Yaa Yab Xa;(exact Ya1);exact rfl))
   all_goals ((apply Xd 2 rfl Yaa rfl Yab Xa;(exact Xm rfl);exact rfl))
   all_goals ((apply Xu 3;exact Yaa;exact rfl;exact Xa;exact (fun h=>absurd h Yao);(apply Xt;refine Xj (k:=0) (l0:=[]) rfl rfl rfl ?_)))
   all_goals (refine X9 Yaa ?_)
   all_goals ((repeat' (refine Xw ?_)))
   all_goals (exact Yas)
theorem Xm7 (hl:l.length≤70000) (hv:Va l) (hp:POk l p) (w:List UInt8) (hw:1<w.length):FnC Tryz.prog 93 [agg (Vr l en p),exT w] [] (fun q loc=>(∃x p',q=tup [exT x,agg (Vr l en p')]∧Step l en (S9 w) p x p')∧loc=[]):=by
 refine X3 Tryz.func93 rfl Tryz.ntmps93 rfl fun w0 F0 out=>?_
 (repeat' (first|refine Xe ?_|refine Xb ?_|refine Xc ?_|(apply Xn;exact Yex;exact rfl)|refine Xw ?_|(apply Xh;exact rfl;first|(apply Xi;first|(refine Xq Tryz.func101 rfl (Xhe hl hv hp _ hw) rfl ?_;rintro _ _ ⟨⟨p1,rfl,hs⟩,rfl⟩;have hp1:=hs.ok)|(refine Xq Tryz.func159 rfl (Xkv hl hp1) rfl ?_;rintro _ _ ⟨⟨x2,p2,rfl,hs2⟩,rfl⟩))|(apply Vp;refine W4 rfl ?_;intro _)|(apply Wb;refine X8 ?_;intro _)|(apply Xt;refine Xj (k:=0) (l0:=[]) rfl rfl rfl ?_))))
 all_goals (have hE:Step l en (S9 w) p x2 p2:=hs.bnd hs2)
 all_goals (exact Yas)
theorem Xkw (hl:l.length≤70000) (hv:Va l) (hp:POk l p) (w:List UInt8) (hw:1<w.length):FnC Tryz.prog 102 [agg (Vr l en p),exT w] [] (fun q loc=>(∃x p',q=tup [exI .i64 x,agg (Vr l en p')]∧Step l en (Si w) p x p')∧loc=[]):=by
 refine X3 Tryz.func102 rfl Tryz.ntmps102 rfl fun w0 F0 out=>?_
 (repeat' (first|refine Xe ?_|refine Xb ?_|refine Xc ?_|(apply Xn;exact Yex;exact rfl)|refine Xw ?_|(apply Xh;exact rfl;first|(apply Xi;first|(refine Xq Tryz.func101 rfl (Xhe hl hv hp _ hw) rfl ?_;rintro _ _ ⟨⟨p1,rfl,hs⟩,rfl⟩;have hp1:=hs.ok)|(refine Xq Tryz.func165 rfl (Xfx hl hp1) rfl ?_;rintro _ _ ⟨⟨x2,p2,rfl,hs2⟩,rfl⟩))|(apply Vp;refine W4 rfl ?_;intro _)|(apply Wb;refine X8 ?_;intro _)|(apply Xt;refine Xj (k:=0) (l0:=[]) rfl rfl rfl ?_))))
 all_goals (have hE:Step l en (Si w) p x2 p2:=hs.bnd hs2)
 all_goals (exact Yas)
end Go.Proofs.YthdldeenpgeemaaGreatDoor
namespace Go.Proofs.YthdldeenpgeemaaGreatDoor
open Go Go.RowKit Go.Kx Go.Fr Go.Lx Go.Sx
variable {l:List TokD} {en:Nat} {p:Pst}
theorem Vy (hl:l.length≤70000) (hv:Va l) (hp:POk l p) (w:List UInt8) (hw:1<w.length):FnC Tryz.prog 95 [agg (Vr l en p),exT w] [] (fun q loc=>q=exB (tst l (isT w) p)∧loc=[]):=by
 rw [←Xfu hv hw];exact Xkt hl hp w
theorem Uk (hl:l.length≤70000) (hv:Va l) (hp:POk l p) (w:List UInt8) (hw:Ru w=false):FnC Tryz.prog 163 [agg (Vr l en p),exT w] [] (fun q loc=>q=exB (tst l (isT w) p)∧loc=[]):=by
 rw [←Xfv hv hw];exact Xku hl hp w
theorem Xig {P:Program} {f:FuncId} {args:List SP} {inn:List Ent} {R R':SP→List Ent→Prop} (h:FnC P f args inn R) (hr: ∀q loc,R q loc→R' q loc):FnC P f args inn R':=fun F w vals out hg hc=>(h F w vals out hg hc).mono fun _ _ ⟨v,F',p,loc',h1,h2,h3⟩=>⟨v,F',p,loc',h1,hr _ _ h2,h3⟩
theorem Xp3 {α:Type} {P:FuncId} {a i} {V:α→SP} {S:α→Prop} {pr:Program} (h:FnC pr P a i (fun q loc=>(∃p',q=V p'∧S p')∧loc=[])):FnC pr P a i (fun q loc=>(∃p',S p'∧q=V p')∧loc=[]):=Xig h fun _ _ ⟨⟨p',h1,h2⟩,h3⟩=>⟨⟨p',h2,h1⟩,h3⟩
theorem Xm8 {α β:Type} {P:FuncId} {a i} {V:α→β→SP} {S:α→β→Prop} {pr:Program} (h:FnC pr P a i (fun q loc=>(∃x p',q=V x p'∧S x p')∧loc=[])):FnC pr P a i (fun q loc=>(∃x p',S x p'∧q=V x p')∧loc=[]):=Xig h fun _ _ ⟨⟨x,p',h1,h2⟩,h3⟩=>⟨⟨x,p',h2,h1⟩,h3⟩
theorem U3 (hl:l.length≤70000) (hv:Va l) (hp:POk l p) (w:List UInt8) (hw:1<w.length):FnC Tryz.prog 101 [agg (Vr l en p),exT w] [] (fun q loc=>(∃p',Step l en (want w) p () p'∧q=agg (Vr l en p'))∧loc=[]):=Xp3 (Xhe hl hv hp w hw)
theorem Ux (hl:l.length≤70000) (hv:Va l) (hp:POk l p) (w:List UInt8) (hw:Ru w=false):FnC Tryz.prog 94 [agg (Vr l en p),exT w] [] (fun q loc=>(∃p',Step l en (want w) p () p'∧q=agg (Vr l en p'))∧loc=[]):=Xp3 (Xoz hl hv hp w hw)
theorem Rb (hl:l.length≤70000) (hv:Va l) (hp:POk l p) (w:List UInt8) (hw:1<w.length):FnC Tryz.prog 93 [agg (Vr l en p),exT w] [] (fun q loc=>(∃x p',Step l en (S9 w) p x p'∧q=tup [exT x,agg (Vr l en p')])∧loc=[]):=Xm8 (Xm7 hl hv hp w hw)
theorem Qj (hl:l.length≤70000) (hv:Va l) (hp:POk l p) (w:List UInt8) (hw:1<w.length):FnC Tryz.prog 102 [agg (Vr l en p),exT w] [] (fun q loc=>(∃x p',Step l en (Si w) p x p'∧q=tup [exI .i64 x,agg (Vr l en p')])∧loc=[]):=Xm8 (Xkw hl hv hp w hw)
theorem Qk (hl:l.length≤70000) (hp:POk l p):FnC Tryz.prog 165 [agg (Vr l en p)] [] (fun q loc=>(∃x p',Step l en numP p x p'∧q=tup [exI .i64 x,agg (Vr l en p')])∧loc=[]):=Xm8 (Xfx hl hp)
theorem Xo0 (hl:l.length≤70000) (hp:POk l p):FnC Tryz.prog 159 [agg (Vr l en p)] [] (fun q loc=>(∃x p',Step l en Rs p x p'∧q=tup [exT x,agg (Vr l en p')])∧loc=[]):=Xm8 (Xkv hl hp)
def Xb2 {α:Type} (f:List TokD→Res α):List TokD→Res α:=bnd f fun x=>bnd (want sSemi) fun _=>ret x
theorem Xkx (hl:l.length≤70000) (hv:Va l) (hp:POk l p) (w:List UInt8) (hw:1<w.length):FnC Tryz.prog 97 [agg (Vr l en p),exT w] [] (fun q loc=>(∃x p',Step l en (Xb2 (Sj w)) p x p'∧q=tup [agg (itemV x),agg (Vr l en p')])∧loc=[]):=by
 refine X3 Tryz.func97 rfl Tryz.ntmps97 rfl fun w0 F0 out=>?_
 (repeat' (first|(apply Wa 5;refine Stop.out ?_)|refine Xe ?_|refine Xb ?_|refine Xc ?_|(apply Xn;exact Ydo;exact rfl)|(apply Xh;exact rfl;first|(apply Xi;first|(refine Xq Tryz.func93 rfl (Rb hl hv hp w hw) rfl ?_;rintro _ _ ⟨⟨x1,p1,hs,rfl⟩,rfl⟩;have hp1:=hs.ok)|(refine Xq Tryz.func102 rfl (Qj hl hv Yaq _ Yao) rfl ?_;rintro _ _ ⟨⟨x1,p1,hs,rfl⟩,rfl⟩;have hp1:=hs.ok))|(apply Vp;refine W4 rfl ?_;intro _)|(apply Wb;refine X8 ?_;intro _)|(apply Xt;first|refine Xj (k:=0) (l0:=[]) rfl rfl rfl ?_|refine Xj (k:=3) (l0:=[]) rfl rfl rfl ?_))))
 refine ⟨?_⟩
 (refine Wt 3 rfl ?_)
 all_goals ((apply Xv 0 rfl Yaa rfl Yaa Yab Xa;(exact Ybg);exact rfl))
 all_goals ((apply Xu 1 Yaa rfl Xa (fun _ _ _=>trivial);apply Tm (H:=fun _=>True);(exact Ya2);exact rfl))
 all_goals ((apply Xu 2;exact Yaa;exact rfl;exact Xa;exact (fun _ _ h=>h);(apply Xi;(refine Xq Tryz.func94 rfl (Ux hl hv Yaq _ Yao) rfl ?_;rintro _ _ ⟨⟨p1,hs,rfl⟩,rfl⟩;have hp1:=hs.ok))))
 all_goals ((apply Xu 3;exact Yaa;exact rfl;exact Xa;exact (fun h=>absurd h Yao);(apply Xt;refine Xj (k:=2) (l0:=[]) rfl rfl rfl ?_)))
 all_goals ((apply Xu 4;exact Yaa;exact rfl;exact Xa;exact (fun h=>absurd h Yao);(apply Xt;refine Xj (k:=1) (l0:=[]) rfl rfl rfl ?_)))
 all_goals (refine X9 Yaa ?_)
 all_goals ((repeat' (refine Xw ?_)))
 all_goals (unfold Xb2 Sj)
 all_goals ((exact ⟨.inr rfl,S8 rfl (.cella (k:=2) rfl rfl rfl rfl inferInstance rfl) (.cella (k:=1) rfl rfl rfl rfl inferInstance rfl) (List.nil_sublist _) ⟨⟨_,_,by (repeat' (first|assumption|exact Step.ret Yaq|apply Step.bnd)),by rfl⟩,rfl⟩⟩))
end Go.Proofs.YthdldeenpgeemaaGreatDoor
namespace Go.Proofs.YthdldeenpgeemaaGreatDoor
open Go Go.RowKit Go.Kx Go.Fr Go.Lx Go.Sx
variable {l:List TokD} {en:Nat} {p:Pst}
theorem Xfy (hl:l.length≤70000) (hv:Va l) (hp:POk l p):FnC Tryz.prog 96 [agg (Vr l en p)] [] (fun q loc=>(∃x p',Step l en (Xb2 critB) p x p'∧q=tup [agg (critV x),agg (Vr l en p')])∧loc=[]):=by
 refine X3 Tryz.func96 rfl Tryz.ntmps96 rfl fun w0 F0 out=>?_
 (repeat' (first|(apply W2 6;refine StopW.out ?_)|refine Xe ?_|refine Xb ?_|refine Xc ?_|(apply Xn;exact Ydo;exact rfl)|(apply Xh;exact rfl;first|(apply Xi;first|(refine Xq Tryz.func93 rfl (Rb hl hv Yaq _ Yao) rfl ?_;rintro _ _ ⟨⟨x1,p1,hs,rfl⟩,rfl⟩;have hp1:=hs.ok)|(refine Xq Tryz.func102 rfl (Qj hl hv Yaq _ Yao) rfl ?_;rintro _ _ ⟨⟨x1,p1,hs,rfl⟩,rfl⟩;have hp1:=hs.ok))|(apply Vp;refine W4 rfl ?_;intro _)|(apply Wb;refine X8 ?_;intro _)|(apply Xt;first|refine Xj (k:=0) (l0:=[]) rfl rfl rfl ?_|refine Xj (k:=3) (l0:=[]) rfl rfl rfl ?_))))
 refine ⟨?_⟩
 rename_i b1 b2 b3 b4 nm q1 h1 k1 lo q2 h2 k2 hi q3 h3 k3
 revert x1 p1
 intro st q4 h4 k4
 refine V1 (fun z:(Int×Int)×Pst=>([(1,ex (.pointer (some ⟨b1,0,none⟩))),(2,ex (.pointer (some ⟨b2,0,none⟩))),(3,ex (.pointer (some ⟨b3,0,none⟩))),(4,ex (.pointer (some ⟨b4,0,none⟩)))],[row b4 70 7 [exT nm,exI .i64 lo,exI .i64 hi,exI .i64 st,exI .i64 z.1.1,exI .i64 z.1.2,exB false],row b3 65 5 [ex (.slice none 0 0),exI .i64 0,exI .i64 0,exB false,exI .i64 0],row b2 70 7 [exT [],exI .i64 0,exI .i64 0,exI .i64 0,exI .i64 0,exI .i64 0,exB false],row b1 65 5 (Vr l en z.2)])) (fun z=>Step l en howP q4 z.1 z.2) ?_ fun z hz=>?_
 · refine X7 (env':=[(1,ex (.pointer (some ⟨b1,0,none⟩))),(2,ex (.pointer (some ⟨b2,0,none⟩))),(3,ex (.pointer (some ⟨b3,0,none⟩))),(4,ex (.pointer (some ⟨b4,0,none⟩)))]) (loc':=[row b4 70 7 [exT nm,exI .i64 lo,exI .i64 hi,exI .i64 st,exI .i64 0,exI .i64 0,exB false],row b3 65 5 [ex (.slice none 0 0),exI .i64 0,exI .i64 0,exB false,exI .i64 0],row b2 70 7 [exT [],exI .i64 0,exI .i64 0,exI .i64 0,exI .i64 0,exI .i64 0,exB false],row b1 65 5 (Vr l en q4)]) (Xg (by repeat (first|exact Xr|refine Xl rfl ?_)) (List.Sublist.refl _)) ?_
   (repeat' (first|refine Xe ?_|refine Xb ?_|refine Xc ?_|(apply Xn;exact Ydf;exact rfl)|(apply Xh;exact rfl;first|(apply Xi;first|(refine Xq Tryz.func95 rfl (Vy hl hv Yaq _ Yao) rfl ?_;rintro _ _ ⟨rfl,rfl⟩)|(refine Xq Tryz.func101 rfl (U3 hl hv Yaq _ Yao) rfl ?_;rintro _ _ ⟨⟨p1,hs,rfl⟩,rfl⟩;have hp1:=hs.ok)|(refine Xq Tryz.func102 rfl (Qj hl hv Yaq _ Yao) rfl ?_;rintro _ _ ⟨⟨x1,p1,hs,rfl⟩,rfl⟩;have hp1:=hs.ok))|(apply Xt;first|refine Xj (k:=0) (l0:=[]) rfl rfl rfl ?_|refine Xj (k:=3) (l0:=[]) rfl rfl rfl ?_))|(refine Xp rfl (fun hb=>?_) (fun hb=>?_)<;>(repeat (fail))<;>(try (exfalso;fail)))))
   all_goals (refine Wo (Q:=fun _ _ _=>True) ((_,_),_) (by unfold howP;repeat' (first|assumption|exact Step.ret Yaq|(apply Step.ifT;assumption)|(apply Step.ifF;assumption)|apply Step.bnd)) (Xg (by repeat (first|exact Xr|refine Xl rfl ?_)) (List.Sublist.refl _)))
 obtain ⟨⟨h,t⟩,q5⟩:=z
 have k5:=hz.ok
 simp only at hz k5 ⊢
 (repeat' (first|(apply W2 14;refine StopW.out ?_)|refine Xe ?_))
 refine ⟨?_⟩
 refine V1 (fun z:Bool×Pst=>([(1,ex (.pointer (some ⟨b1,0,none⟩))),(2,ex (.pointer (some ⟨b2,0,none⟩))),(3,ex (.pointer (some ⟨b3,0,none⟩))),(4,ex (.pointer (some ⟨b4,0,none⟩)))],[row b4 70 7 [exT nm,exI .i64 lo,exI .i64 hi,exI .i64 st,exI .i64 h,exI .i64 t,exB z.1],row b3 65 5 [ex (.slice none 0 0),exI .i64 0,exI .i64 0,exB false,exI .i64 0],row b2 70 7 [exT [],exI .i64 0,exI .i64 0,exI .i64 0,exI .i64 0,exI .i64 0,exB false],row b1 65 5 (Vr l en z.2)])) (fun z=>Step l en (Xoe wReverse) q5 z.1 z.2) ?_ fun z hy=>?_
 · (repeat' (first|refine Xe ?_|refine Xb ?_|refine Xc ?_|(apply Xn;(first|exact Ya2|exact Yad);exact rfl)|refine Xs ?_|(apply Xh;exact rfl;first|(apply Xi;first|(refine Xq Tryz.func95 rfl (Vy hl hv Yaq _ Yao) rfl ?_;rintro _ _ ⟨rfl,rfl⟩)|(refine Xq Tryz.func101 rfl (U3 hl hv Yaq _ Yao) rfl ?_;rintro _ _ ⟨⟨p1,hs,rfl⟩,rfl⟩;have hp1:=hs.ok))|(apply Xt;first|refine Xj (k:=0) (l0:=[]) rfl rfl rfl ?_|refine Xj (k:=3) (l0:=[]) rfl rfl rfl ?_))|(refine Xp rfl (fun hb=>?_) (fun hb=>?_)<;>(repeat (fail))<;>(try (exfalso;fail)))))
   all_goals (refine Wo (Q:=fun _ _ _=>True) (_,_) Yek (Xg (by repeat (first|exact Xr|refine Xl rfl ?_)) (List.Sublist.refl _)))
 obtain ⟨rv,q6⟩:=z
 have k6:=hy.ok
 simp only at hy k6 ⊢
 (repeat' (first|(apply Wa 17;refine Stop.out ?_)|refine Xe ?_))
 refine ⟨?_⟩
 (refine Wt 3 rfl ?_)
 all_goals ((apply Xv 0 rfl Yaa rfl Yaa Yab Xa;(exact Ybg);exact rfl))
 all_goals ((apply Xu 1 Yaa rfl Xa (fun _ _ _=>trivial);apply Tm (H:=fun _=>True);(exact Ya2);exact rfl))
 all_goals ((apply Xu 2;exact Yaa;exact rfl;exact Xa;exact (fun _ _ h=>h);(apply Xi;(refine Xq Tryz.func94 rfl (Ux hl hv Yaq _ Yao) rfl ?_;rintro _ _ ⟨⟨p1,hs,rfl⟩,rfl⟩;have hp1:=hs.ok))))
 all_goals ((apply Xu 3;exact Yaa;exact rfl;exact Xa;exact (fun h=>absurd h Yao);(apply Xt;refine Xj (k:=2) (l0:=[]) rfl rfl rfl ?_)))
 all_goals ((apply Xu 4;exact Yaa;exact rfl;exact Xa;exact (fun h=>absurd h Yao);(apply Xt;refine Xj (k:=1) (l0:=[]) rfl rfl rfl ?_)))
 all_goals (refine X9 Yaa ?_)
 all_goals ((repeat' (refine Xw ?_)))
 all_goals (unfold Xb2 critB)
 all_goals ((exact ⟨.inr rfl,S8 rfl (.cella (k:=2) rfl rfl rfl rfl inferInstance rfl) (.cella (k:=1) rfl rfl rfl rfl inferInstance rfl) (List.nil_sublist _) ⟨⟨_,_,by (repeat' (first|assumption|exact Step.ret Yaq|apply Step.bnd)),by rfl⟩,rfl⟩⟩))
end Go.Proofs.YthdldeenpgeemaaGreatDoor
namespace Go.Proofs.YthdldeenpgeemaaGreatDoor
open Go Go.RowKit Go.Kx Go.Fr Go.Lx Go.Sx
variable {l:List TokD} {en:Nat} {p:Pst}
theorem Xn8 (hl:l.length≤70000) (hv:Va l) (hp:POk l p):FnC Tryz.prog 162 [agg (Vr l en p)] [] (fun q loc=>(∃x p',Step l en keyP p x p'∧q=tup [agg (keyV x),agg (Vr l en p')])∧loc=[]):=by
 refine X3 Tryz.func162 rfl Tryz.ntmps162 rfl fun w0 F0 out=>?_
 (repeat' (first|(apply Wa 5;refine StopW.out ?_)|(apply Wa 9;refine StopW.out ?_)|(apply Wa 13;refine StopW.out ?_)|refine Xe ?_|refine Xb ?_|refine Xc ?_|(apply Xn;(first|exact Xf rfl|exact Ybb|exact Ya2|exact Yad|exact Yay);exact rfl)|refine Xs ?_|refine Xw ?_|(apply Xh;exact rfl;first|(apply Xi;first|(refine Xq Tryz.func93 rfl (Rb hl hv Yaq _ Yao) rfl ?_;rintro _ _ ⟨⟨x1,p1,hs,rfl⟩,rfl⟩;have hp1:=hs.ok)|(refine Xq Tryz.func95 rfl (Vy hl hv Yaq _ Yao) rfl ?_;rintro _ _ ⟨rfl,rfl⟩)|(refine Xq Tryz.func101 rfl (U3 hl hv Yaq _ Yao) rfl ?_;rintro _ _ ⟨⟨p1,hs,rfl⟩,rfl⟩;have hp1:=hs.ok))|(apply Vp;refine W4 rfl ?_;intro _)|(apply Wb;refine X8 ?_;intro _)|(apply Xt;first|refine Xj (k:=0) (l0:=[]) rfl rfl rfl ?_|refine Xj (k:=1) (l0:=[]) rfl rfl rfl ?_|refine Xj (k:=2) (l0:=[]) rfl rfl rfl ?_|refine Xj (k:=3) (l0:=[]) rfl rfl rfl ?_))|(refine Xp rfl (fun hb=>?_) (fun hb=>?_)<;>(repeat (fail))<;>(try (exfalso;fail)))))
 · refine ⟨?_⟩
   (refine Wt 2 rfl ?_)
   all_goals ((apply Xv 0 rfl Yaa rfl Yaa Yab Xa;(exact Ybg);exact rfl))
   all_goals (refine Uw (H2:=Tp []) 1 2 Yaa rfl Xa (fun _ _ _=>trivial) rfl Xa (fun h=>absurd h Yao) ?_ ?_;(apply Tm (H:=fun _=>True);(exact Ya2);exact rfl);(apply Xu 2;exact Yaa;exact rfl;exact Xa;exact (fun h=>absurd h Yao);((apply Xt;refine Xj (k:=2) (l0:=[]) rfl rfl rfl ?_)));rotate_left;((apply Xt;refine Xj (k:=2) (l0:=[]) rfl rfl rfl ?_));(apply Xu 1;exact Yaa;exact rfl;exact Xa;exact (fun _ _ _=>trivial);(apply Tm (H:=fun _=>True);(exact Ya2);exact rfl)))
   all_goals ((apply Xu 3;exact Yaa;exact rfl;exact Xa;exact (fun h=>absurd h Yao);(apply Xt;refine Xj (k:=1) (l0:=[]) rfl rfl rfl ?_)))
   all_goals (refine X9 Yaa ?_)
   all_goals ((repeat' (refine Xw ?_)))
   all_goals (unfold keyP)
   all_goals ((exact ⟨.inr rfl,S8 rfl (.cella (k:=2) rfl rfl rfl rfl inferInstance rfl) (.cella (k:=1) rfl rfl rfl rfl inferInstance rfl) (List.nil_sublist _) ⟨⟨_,_,by (repeat' (first|assumption|exact Step.ret Yaq|(apply Step.ifT;assumption)|apply Step.bnd)),by rfl⟩,rfl⟩⟩))
 · refine ⟨?_⟩
   (refine Wt 2 rfl ?_)
   all_goals ((apply Xv 0 rfl Yaa rfl Yaa Yab Xa;(exact Ybg);exact rfl))
   all_goals (refine Uw (H2:=Tp []) 1 2 Yaa rfl Xa (fun _ _ _=>trivial) rfl Xa (fun h=>absurd h Yao) ?_ ?_;(apply Tm (H:=fun _=>True);(exact Ya2);exact rfl);(apply Xu 2;exact Yaa;exact rfl;exact Xa;exact (fun h=>absurd h Yao);((apply Xt;refine Xj (k:=2) (l0:=[]) rfl rfl rfl ?_)));rotate_left;((apply Xt;refine Xj (k:=2) (l0:=[]) rfl rfl rfl ?_));(apply Xu 1;exact Yaa;exact rfl;exact Xa;exact (fun _ _ _=>trivial);(apply Tm (H:=fun _=>True);(exact Ya2);exact rfl)))
   all_goals ((apply Xu 3;exact Yaa;exact rfl;exact Xa;exact (fun h=>absurd h Yao);(apply Xt;refine Xj (k:=1) (l0:=[]) rfl rfl rfl ?_)))
   all_goals (refine X9 Yaa ?_)
   all_goals ((repeat' (refine Xw ?_)))
   all_goals (unfold keyP)
   all_goals ((exact ⟨.inr rfl,S8 rfl (.cella (k:=2) rfl rfl rfl rfl inferInstance rfl) (.cella (k:=1) rfl rfl rfl rfl inferInstance rfl) (List.nil_sublist _) ⟨⟨_,_,by (repeat' (first|assumption|exact Step.ret Yaq|(apply Step.ifT;assumption)|(apply Step.ifF;assumption)|apply Step.bnd)),by rfl⟩,rfl⟩⟩))
 · refine ⟨?_⟩
   (refine Wt 2 rfl ?_)
   all_goals ((apply Xv 0 rfl Yaa rfl Yaa Yab Xa;(exact Ybg);exact rfl))
   all_goals (refine Uw (H2:=Tp []) 1 2 Yaa rfl Xa (fun _ _ _=>trivial) rfl Xa (fun h=>absurd h Yao) ?_ ?_;(apply Tm (H:=fun _=>True);(exact Ya2);exact rfl);(apply Xu 2;exact Yaa;exact rfl;exact Xa;exact (fun h=>absurd h Yao);((apply Xt;refine Xj (k:=2) (l0:=[]) rfl rfl rfl ?_)));rotate_left;((apply Xt;refine Xj (k:=2) (l0:=[]) rfl rfl rfl ?_));(apply Xu 1;exact Yaa;exact rfl;exact Xa;exact (fun _ _ _=>trivial);(apply Tm (H:=fun _=>True);(exact Ya2);exact rfl)))
   all_goals ((apply Xu 3;exact Yaa;exact rfl;exact Xa;exact (fun h=>absurd h Yao);(apply Xt;refine Xj (k:=1) (l0:=[]) rfl rfl rfl ?_)))
   all_goals (refine X9 Yaa ?_)
   all_goals ((repeat' (refine Xw ?_)))
   all_goals (unfold keyP)
   all_goals ((exact ⟨.inr rfl,S8 rfl (.cella (k:=2) rfl rfl rfl rfl inferInstance rfl) (.cella (k:=1) rfl rfl rfl rfl inferInstance rfl) (List.nil_sublist _) ⟨⟨_,_,by (repeat' (first|assumption|exact Step.ret Yaq|(apply Step.ifT;assumption)|(apply Step.ifF;assumption)|apply Step.bnd)),by rfl⟩,rfl⟩⟩))
 all_goals (unfold keyP)
 all_goals ((exact ⟨.inr rfl,S8 rfl (.cella (k:=2) rfl rfl rfl rfl inferInstance rfl) (.cella (k:=1) rfl rfl rfl rfl inferInstance rfl) (List.nil_sublist _) ⟨⟨_,_,by (repeat' (first|assumption|exact Step.ret Yaq|(apply Step.ifT;assumption)|(apply Step.ifF;assumption)|apply Step.bnd)),by rfl⟩,rfl⟩⟩))
end Go.Proofs.YthdldeenpgeemaaGreatDoor
namespace Go.Proofs.YthdldeenpgeemaaGreatDoor
open Go Go.RowKit Go.Kx Go.Fr Go.Lx Go.Sx
variable {l:List TokD} {en:Nat} {p:Pst}
theorem Xdp (hl:l.length≤70000) (hv:Va l) (hp:POk l p):FnC Tryz.prog 100 [agg (Vr l en p)] [] (fun q loc=>(∃x p',Step l en (Qp numP) p x p'∧q=tup [isl eI x,agg (Vr l en p')])∧loc=[]):=by
 refine X3 Tryz.func100 rfl Tryz.ntmps100 rfl fun w0 F0 out=>?_
 have hlw:Lw TT numP:=Xcs fun _ _=>trivial
 have hb0: ∀q:Pst,q.left l≤l.length+1:=fun q=>by unfold Pst.left;split<;>omega
 (repeat' (first|refine Xe ?_|refine Xb ?_|refine Xc ?_|(apply Xn;exact Yex;exact rfl)|refine Xo ?_|(apply Xh;exact rfl;first|(apply Xi;(refine Xq Tryz.func165 rfl (Qk hl Yaq) rfl ?_;rintro _ _ ⟨⟨x1,p1,hs,rfl⟩,rfl⟩;have hp1:=hs.ok))|(apply Vp;refine W4 rfl ?_;intro _)|(apply Wb;refine X8 ?_;intro _)|(apply Xt;refine Xj (k:=1) (l0:=[]) rfl rfl rfl ?_)|(apply X5;(refine X6 rfl rfl ?_);intro _))))
 rename_i b1 b3 b0
 revert x1 p1
 intro x0 q0 h0 k0
 refine Ws (fun z:Value×List Int×Pst=>([(1,ex (.pointer (some ⟨b1,0,none⟩))),(3,ex (.pointer (some ⟨b3,0,none⟩))),(5,ex z.1)],[vec z.1 3 1 z.2.1.length (z.2.1.flatMap Xq8),row b3 65 5 [ex (.slice none 0 0),exI .i64 0,exI .i64 0,exB false,exI .i64 0],row b1 65 5 (Vr l en z.2.2)])) (fun z=>POk l z.2.2∧z.2.1.length+z.2.2.left l≤70002∧ ∀y q,Step l en (Q9 (isT sComma) (Tc numP) z.2.1) z.2.2 y q→Step l en (Qp numP) p y q) (fun z=>z.2.2.left l) (.slice (some ⟨b0,0,none⟩) 1 1,[x0],q0) ?_ ⟨k0,by have:=hb0 q0;show 1+q0.left l≤70002;omega,fun y q h=>h0.bnd h⟩ fun z hz=>?_
 · refine Vu (k:=0) (sz:=1) (n:=1) (c:=1) rfl rfl rfl Yao Yao ?_
   exact Xg (by repeat (first|exact Xr|refine Xl rfl ?_)) (List.Sublist.refl _)
 obtain ⟨v,acc,q⟩:=z
 obtain ⟨kq,hacc,hinv⟩:=hz
 simp only at kq hacc hinv ⊢
 have hq:=hb0 q
 cases ht:tst l (isT sComma) q
 · (repeat' (first|(apply Wa 7;refine StopW.out ?_)|refine Xe ?_|refine Xb ?_|refine Xc ?_|(apply Xn;(exact Ybk);exact rfl)|refine Xo ?_|refine Xs ?_|refine Wm ?_|(apply Xh;exact rfl;(apply Xi;(refine Xq Tryz.func163 rfl (Uk hl hv Yaq _ Yao) rfl ?_;rintro _ _ ⟨rfl,rfl⟩)))|(refine Xp rfl (fun hb=>?_) (fun hb=>?_)<;>(repeat (fail))<;>(try (exfalso;fail)))))
   all_goals (try (exfalso;first|contradiction|(simp_all;done)))
   refine ⟨?_⟩
   have hE:=hinv _ _ (Step.run_stop rfl (Th hlw) ht kq)
   refine X7 (Ro (k:=0) (t:=5) (E:=eI) acc rfl rfl rfl rfl (hby:=by show _ * 8≤_;omega)) ?_
   (refine Wt 3 rfl ?_)
   all_goals ((apply Xd 0 rfl Yaa rfl Yab Xa;(exact Xf rfl);exact rfl))
   all_goals ((apply Xv 1 rfl Yaa rfl Yaa Yab Xa;(exact Ya1);exact rfl))
   all_goals ((apply Xd 2 rfl Yaa rfl Yab Xa;(exact Xm rfl);exact rfl))
   all_goals ((apply Xu 3;exact Yaa;exact rfl;exact Xa;exact (fun h=>absurd h Yao);(apply Xt;refine Xj (k:=0) (l0:=[]) rfl rfl rfl ?_)))
   all_goals (refine X9 Yaa ?_)
   all_goals ((repeat' (refine Xw ?_)))
   all_goals ((first|exact ⟨.inr rfl,S8 rfl (.tmp rfl) (.cella (k:=0) rfl rfl rfl rfl inferInstance rfl) (List.nil_sublist _) ⟨⟨_,_,hE,by rfl⟩,rfl⟩⟩|exact ⟨.inr rfl,S8 rfl (.tmp rfl) (.cella (k:=1) rfl rfl rfl rfl inferInstance rfl) (List.nil_sublist _) ⟨⟨_,_,hE,by rfl⟩,rfl⟩⟩|exact ⟨.inr rfl,S8 rfl (.tmp rfl) (.cella (k:=2) rfl rfl rfl rfl inferInstance rfl) (List.nil_sublist _) ⟨⟨_,_,hE,by rfl⟩,rfl⟩⟩))
 · have hlt:=U2 ht
   (repeat' (first|refine Xe ?_|refine Xb ?_|refine Xc ?_|(apply Xn;(first|exact Xf rfl|exact Xm rfl|exact Ybb|exact Ydw);exact rfl)|refine Xo ?_|refine Xs ?_|refine Wm ?_|(apply Xh;exact rfl;first|(apply Xi;first|(refine Xq Tryz.func163 rfl (Uk hl hv Yaq _ Yao) rfl ?_;rintro _ _ ⟨rfl,rfl⟩)|(refine Xq Tryz.func94 rfl (Ux hl hv Yaq _ Yao) rfl ?_;rintro _ _ ⟨⟨p1,hs,rfl⟩,rfl⟩;have hp1:=hs.ok)|(refine Xq Tryz.func165 rfl (Qk hl Yaq) rfl ?_;rintro _ _ ⟨⟨x1,p1,hs,rfl⟩,rfl⟩;have hp1:=hs.ok))|(apply Wb;refine X8 ?_;intro _)|(apply Xt;first|refine Xj (k:=0) (l0:=[]) rfl rfl rfl ?_|refine Xj (k:=4) (l0:=[]) rfl rfl rfl ?_)|(apply Ve;((refine Vb (k:=2) (l0:=[]) rfl rfl Yby rfl ?_));intro _)|(apply X5;(refine X6 rfl rfl ?_);intro _))|(refine Xp rfl (fun hb=>?_) (fun hb=>?_)<;>(repeat (fail))<;>(try (exfalso;fail)))))
   all_goals (try (exfalso;first|contradiction|(simp_all;done)))
   rename_i q1 hs1 k1 b7 b8 v2
   have h1:Step l en (Tc numP acc) q (acc++[x1]) p1:=hs1.bnd (hs.bnd (Step.ret hp1))
   have hlf:=Step.left (Th hlw acc) h1 hlt
   refine ⟨(v2,acc++[x1],p1),⟨hp1,by simp only [List.length_append,List.length_cons,List.length_nil];omega,fun y q h=>hinv y q (Step.run_go rfl (Th hlw) ht h1 h)⟩,hlf,?_⟩
   simp only [List.length_append,List.flatMap_append,List.length_cons,List.length_nil,List.flatMap_cons,List.flatMap_nil,List.append_nil]
   exact Xg (by repeat (first|exact Xr|refine Xl rfl ?_)) (by first|exact .cons _ (.cons _ (.refl _))|exact .cons _ (.refl _)|exact (List.Sublist.refl _))
end Go.Proofs.YthdldeenpgeemaaGreatDoor
namespace Go.Proofs.YthdldeenpgeemaaGreatDoor
open Go Go.RowKit Go.Kx Go.Fr Go.Lx Go.Sx
variable {l:List TokD} {en:Nat} {p:Pst}
theorem Xp4 (hl:l.length≤70000) (hv:Va l) (hp:POk l p):FnC Tryz.prog 98 [agg (Vr l en p)] [] (fun q loc=>(∃x p',Step l en (Xb2 tieB) p x p'∧q=tup [agg (Xb6 x),agg (Vr l en p')])∧loc=[]):=by
 refine X3 Tryz.func98 rfl Tryz.ntmps98 rfl fun w0 F0 out=>?_
 have hlw:Lw TT keyP:=Xir (fun _ _ _=>trivial) fun w _=>Ss w
 have hb0: ∀q:Pst,q.left l≤l.length+1:=fun q=>by unfold Pst.left;split<;>omega
 (repeat' (first|(apply Wa 4;refine StopW.out ?_)|refine Xe ?_|refine Xb ?_|refine Xc ?_|(apply Xn;exact Ydo;exact rfl)|(apply Xh;exact rfl;first|(apply Xi;first|(refine Xq Tryz.func93 rfl (Rb hl hv Yaq _ Yao) rfl ?_;rintro _ _ ⟨⟨x1,p1,hs,rfl⟩,rfl⟩;have hp1:=hs.ok)|(refine Xq Tryz.func162 rfl (Xn8 hl hv Yaq) rfl ?_;rintro _ _ ⟨⟨x1,p1,hs,rfl⟩,rfl⟩;have hp1:=hs.ok))|(apply Vp;refine W4 rfl ?_;intro _)|(apply Wb;refine X8 ?_;intro _)|(apply Xt;first|refine Xj (k:=0) (l0:=[]) rfl rfl rfl ?_|refine Xj (k:=3) (l0:=[]) rfl rfl rfl ?_|refine Xj (k:=4) (l0:=[]) rfl rfl rfl ?_))))
 refine ⟨?_⟩
 rename_i b1 b2 b3 b4 nm q1 h1 k1 b5
 revert x1 p1
 intro x0 q0 h0 k0
 refine X7 (env':=[(5,ex (.pointer (some ⟨b5,0,none⟩))),(1,ex (.pointer (some ⟨b1,0,none⟩))),(2,ex (.pointer (some ⟨b2,0,none⟩))),(3,ex (.pointer (some ⟨b3,0,none⟩))),(4,ex (.pointer (some ⟨b4,0,none⟩)))]) (loc':=[row b5 97 3 (keyV x0),row b4 74 2 [exT nm,ex (.slice none 0 0)],row b3 65 5 [ex (.slice none 0 0),exI .i64 0,exI .i64 0,exB false,exI .i64 0],row b2 74 2 [exT [],ex (.slice none 0 0)],row b1 65 5 (Vr l en q0)]) (Xg (by repeat (first|exact Xr|refine Xl rfl ?_)) (List.Sublist.refl _)) ?_
 (repeat' (first|(refine Qo (k:=0) rfl Yan ?_;intro _ _ hv;subst hv)|refine Xe ?_|refine Xb ?_|refine Xc ?_|(apply Xn;(first|exact Ydu|exact Yad);exact rfl)|refine Xo ?_|(apply Xh;exact rfl;first|(apply Xt;refine Xj (k:=3) (l0:=[]) rfl rfl rfl ?_)|(apply Ve;((refine R1 rfl Yby rfl ?_));intro _)|(apply X5;(refine X6 rfl rfl ?_);intro _))))
 rename_i b9 a9 c9
 refine Ws (fun z:Option Addr×Nat×List KeyD×Pst=>([(1,ex (.pointer (some ⟨b1,0,none⟩))),(2,ex (.pointer (some ⟨b2,0,none⟩))),(3,ex (.pointer (some ⟨b3,0,none⟩))),(4,ex (.pointer (some ⟨b4,0,none⟩)))],[vec (.slice z.1 z.2.2.1.length z.2.1) 97 3 z.2.2.1.length (z.2.2.1.flatMap keyV),row b4 74 2 [exT nm,ex (.slice z.1 z.2.2.1.length z.2.1)],row b3 65 5 [ex (.slice none 0 0),exI .i64 0,exI .i64 0,exB false,exI .i64 0],row b2 74 2 [exT [],ex (.slice none 0 0)],row b1 65 5 (Vr l en z.2.2.2)])) (fun z=>POk l z.2.2.2∧z.2.2.1.length+z.2.2.2.left l≤70002∧ ∀y q,Step l en (Q9 (isT sComma) (Tc keyP) z.2.2.1) z.2.2.2 y q→Step l en (Qp keyP) q1 y q) (fun z=>z.2.2.2.left l) (some ⟨a9,0,none⟩,c9,[x0],q0) ?_ ⟨k0,by have:=hb0 q0;show 1+q0.left l≤70002;omega,fun y q h=>h0.bnd h⟩ fun z hz=>?_
 · exact Xg (by repeat (first|exact Xr|refine Xl rfl ?_)) (by exact .cons_cons _ (.cons _ (.cons _ (.refl _))))
 obtain ⟨oa,c,acc,q⟩:=z
 obtain ⟨kq,hacc,hinv⟩:=hz
 simp only at kq hacc hinv ⊢
 have hq:=hb0 q
 cases ht:tst l (isT sComma) q
 · (repeat' (first|(apply Wa 9;refine StopW.out ?_)|refine Xe ?_|refine Xb ?_|refine Xc ?_|(apply Xn;(exact Ybz);exact rfl)|refine Xo ?_|refine Xs ?_|refine Wm ?_|(apply Xh;exact rfl;(apply Xi;(refine Xq Tryz.func163 rfl (Uk hl hv Yaq _ Yao) rfl ?_;rintro _ _ ⟨rfl,rfl⟩)))|(refine Xp rfl (fun hb=>?_) (fun hb=>?_)<;>(repeat (fail))<;>(try (exfalso;fail)))))
   all_goals (try (exfalso;first|contradiction|(simp_all;done)))
   refine ⟨?_⟩
   have hE:=hinv _ _ (Step.run_stop rfl (Th hlw) ht kq)
   refine X7 (Vi (j:=0) (k:=0) (i:=1) (E:=eKey) acc rfl rfl rfl rfl rfl rfl (hby:=by show _ * 32≤_;omega)) ?_
   (refine Wt 3 rfl ?_)
   all_goals ((apply Xv 0 rfl Yaa rfl Yaa Yab Xa;(exact Ybg);exact rfl))
   all_goals ((apply Xu 1 Yaa rfl Xa (fun _ _ _=>trivial);apply Tm (H:=fun _=>True);(exact Ya2);exact rfl))
   all_goals ((apply Xu 2;exact Yaa;exact rfl;exact Xa;exact (fun _ _ h=>h);(apply Xi;(refine Xq Tryz.func94 rfl (Ux hl hv Yaq _ Yao) rfl ?_;rintro _ _ ⟨⟨p1,hs,rfl⟩,rfl⟩;have hp1:=hs.ok))))
   all_goals ((apply Xu 3;exact Yaa;exact rfl;exact Xa;exact (fun h=>absurd h Yao);(apply Xt;refine Xj (k:=2) (l0:=[]) rfl rfl rfl ?_)))
   all_goals ((apply Xu 4;exact Yaa;exact rfl;exact Xa;exact (fun h=>absurd h Yao);(apply Xt;refine Xj (k:=1) (l0:=[]) rfl rfl rfl ?_)))
   all_goals (refine X9 Yaa ?_)
   all_goals ((repeat' (refine Xw ?_)))
   all_goals (unfold Xb2 tieB)
   all_goals ((exact ⟨.inr rfl,S8 rfl (.cella (k:=2) rfl rfl rfl rfl inferInstance rfl) (.cella (k:=1) rfl rfl rfl rfl inferInstance rfl) (List.nil_sublist _) ⟨⟨_,_,by (repeat' (first|assumption|exact Step.ret Yaq|apply Step.bnd)),by rfl⟩,rfl⟩⟩))
 · have hlt:=U2 ht
   (repeat' (first|(apply Wa 7;refine StopW.out ?_)|refine Xe ?_|refine Xb ?_|refine Xc ?_|(apply Xn;exact Ydj;exact rfl)|refine Xo ?_|refine Xs ?_|refine Wm ?_|(apply Xh;exact rfl;first|(apply Xi;first|(refine Xq Tryz.func163 rfl (Uk hl hv Yaq _ Yao) rfl ?_;rintro _ _ ⟨rfl,rfl⟩)|(refine Xq Tryz.func94 rfl (Ux hl hv Yaq _ Yao) rfl ?_;rintro _ _ ⟨⟨p1,hs,rfl⟩,rfl⟩;have hp1:=hs.ok)|(refine Xq Tryz.func162 rfl (Xn8 hl hv Yaq) rfl ?_;rintro _ _ ⟨⟨x1,p1,hs,rfl⟩,rfl⟩;have hp1:=hs.ok))|(apply Wb;refine X8 ?_;intro _)|(apply Xt;first|refine Xj (k:=0) (l0:=[]) rfl rfl rfl ?_|refine Xj (k:=1) (l0:=[]) rfl rfl rfl ?_))|(refine Xp rfl (fun hb=>?_) (fun hb=>?_)<;>(repeat (fail))<;>(try (exfalso;fail)))))
   all_goals (try (exfalso;first|contradiction|(simp_all;done)))
   refine ⟨?_⟩
   rename_i q2 hs1 k2 b6 b7
   have h1:Step l en (Tc keyP acc) q (acc++[x1]) p1:=hs1.bnd (hs.bnd (Step.ret hp1))
   have hlf:=Step.left (Th hlw acc) h1 hlt
   refine X7 (env':=[(6,ex (.pointer (some ⟨b6,0,none⟩))),(7,ex (.pointer (some ⟨b7,0,none⟩))),(1,ex (.pointer (some ⟨b1,0,none⟩))),(2,ex (.pointer (some ⟨b2,0,none⟩))),(3,ex (.pointer (some ⟨b3,0,none⟩))),(4,ex (.pointer (some ⟨b4,0,none⟩)))]) (loc':=[row b7 65 5 (Vr l en p1),row b6 97 3 (keyV x1),vec (.slice oa acc.length c) 97 3 acc.length (acc.flatMap keyV),row b4 74 2 [exT nm,ex (.slice oa acc.length c)],row b3 65 5 [ex (.slice none 0 0),exI .i64 0,exI .i64 0,exB false,exI .i64 0],row b2 74 2 [exT [],ex (.slice none 0 0)],row b1 65 5 (Vr l en q)]) (Xg (by repeat (first|exact Xr|refine Xl rfl ?_)) (List.Sublist.refl _)) ?_
   (repeat' (first|(refine Qo (k:=3) rfl Yan ?_;intro _ _ hv;subst hv)|refine Xb ?_|refine Xc ?_|(apply Xn;exact Yb7;exact rfl)|(apply Xh;exact rfl;first|(apply Xt;first|refine Xj (k:=4) (l0:=[]) rfl rfl rfl ?_|refine Xj (k:=7) (l0:=[]) rfl rfl rfl ?_)|(apply Ve;((refine Vb (k:=3) (l0:=[]) rfl rfl Yby rfl ?_));intro _)|(apply X5;(refine X6 rfl rfl ?_);intro _))))
   rename_i b8 a9 c9
   refine ⟨(some ⟨a9,0,none⟩,c9,acc++[x1],p1),⟨hp1,by simp only [List.length_append,List.length_cons,List.length_nil];omega,fun y q h=>hinv y q (Step.run_go rfl (Th hlw) ht h1 h)⟩,hlf,?_⟩
   simp only [List.length_append,List.flatMap_append,List.length_cons,List.length_nil,List.flatMap_cons,List.flatMap_nil,List.append_nil]
   exact Xg (by repeat (first|exact Xr|refine Xl rfl ?_)) Ybs
end Go.Proofs.YthdldeenpgeemaaGreatDoor
