/- Chapter 13: the parser reads expressions: how deep, and sums of terms. -/
import Derived.Test.YthdldeenpgeemaaGreatDoorPart7
import Derived.Test.YthdldeenpgeemaaGreatDoorPart5
import Derived.Test.YthdldeenpgeemaaGreatDoorPart6
set_option maxHeartbeats 8000000
set_option maxRecDepth 100000
namespace Go.Proofs.YthdldeenpgeemaaGreatDoor
open Go Go.RowKit Go.Kx Go.Fr Go.Lx Go.Sx
abbrev zeroC:List SP:=[exI .i64 0,exT [],exI .i64 0,exI .i64 0,ex (.slice none 0 0)]
def Xbh (f:FuncId) (g:Nat→List TokD→Res Ex) (n:Nat):Prop:= ∀(b:Nat) (ts:List TokD) (en:Nat) (qs:List SP),ts.length≤70000→FnP Tryz.prog f [ex (.pointer (some ⟨b,0,none⟩)),exI .i64 ((16-n:Nat):Int)] [Ua b ts en qs] (fun p loc=> ∃(k:Nat) (x:Ex) (r:List TokD),g n ts= .ok (x,r)∧p=agg (exV k x)∧loc=[Ua b r en qs]) (fun ch loc=> ∃e,g n ts= .error e∧V4 en e ch loc)
theorem Tw (b:Nat) (ts:List TokD) (en:Nat) (qs:List SP) (n:Nat) (hn:n+1≤16):FnC Tryz.prog 228 [ex (.pointer (some ⟨b,0,none⟩)),exI .i64 ((16-(n+1):Nat):Int)] [Ua b ts en qs] (fun p loc=>p=exI .i64 ((16-n:Nat):Int)∧loc=[Ua b ts en qs]):=by
 have h1:((16-n:Nat):Int)=((16-(n+1):Nat):Int)+1:=by omega
 rw [h1]
 refine X3 Tryz.func228 rfl Tryz.ntmps228 rfl fun w0 F0 out=>?_
 (repeat' (first|refine Xe ?_|refine Xb ?_|refine Xc ?_|(apply Xn;(first|exact Xf rfl|exact Xm rfl|(apply Vx;first|exact Qy rfl rfl|exact S5 rfl rfl));exact rfl)|refine Xs ?_|refine Xw ?_|(refine Xp rfl (fun hb=>?_) (fun hb=>?_)<;>(repeat (first|replace hb:=Xz hb|replace hb:=X0 hb))<;>(try (exfalso;omega)))))
 all_goals (try (exfalso;first|contradiction|omega))
 exact ⟨.inr rfl,Vd rfl (.tmp rfl) (List.Sublist.refl _) ⟨rfl,rfl⟩⟩
theorem Sa (b:Nat) (ts:List TokD) (en:Nat) (qs:List SP):FnP Tryz.prog 228 [ex (.pointer (some ⟨b,0,none⟩)),exI .i64 16] [Ua b ts en qs] (fun _ _=>False) (V4 en ts):=by
 have hfa:=T8 b ts en qs
 refine Wx Tryz.func228 rfl Tryz.ntmps228 rfl fun w0 F0 out=>?_
 (repeat' (first|(apply X4 8;refine Wc (.one 0 rfl .nil) Tryz.func87 rfl hfa rfl ?_ ?_)|refine Xe ?_|refine Xb ?_|refine Xc ?_|(apply Xn;exact Yc8;exact rfl)|refine Xx rfl ?_))
 all_goals (try (exfalso;first|contradiction|omega))
 · rintro _ _ h;exact h.elim
 · rintro ch loc ⟨rfl,rfl⟩
   ((repeat (first|(with_reducible refine Wh ?_)|(with_reducible refine Wl ?_)));refine X2 (loc':=[]) (List.nil_sublist _) ?_)
   exact And.intro rfl rfl
theorem Xdl (n:Nat) (hn:n≤16) (ht:Xbh 212 termN n):Xbh 189 Ty n:=by
 intro b ts en qs hts
 have k1:=ht b ts en qs hts
 refine Wx Tryz.func189 rfl Tryz.ntmps189 rfl fun w0 F0 out=>?_
 generalize hres:Ty n ts=res
 unfold Ty Xaj at hres
 (repeat' (first|(apply X4 9;refine Wc (.one 1 rfl .nil) Tryz.func212 rfl k1 rfl ?_ ?_)|refine Xe ?_|refine Xb ?_|refine Xc ?_|(apply Xn;(exact Xf rfl);exact rfl)|(apply Xh;exact rfl;(apply Wb;refine X8 ?_;intro _))))
 rotate_left
 · rintro ch loc ⟨e,g1,rfl,rfl⟩;((repeat (first|(with_reducible refine Wh ?_)|(with_reducible refine Wl ?_)));refine X2 (loc':=[]) (List.nil_sublist _) ?_);exact ⟨e,hres.symm.trans (X1 g1),rfl,rfl⟩
 rintro _ loc ⟨k0,x0,t0,g1,rfl,rfl⟩
 have hl0:=(Re n).len g1
 rw [Wg g1] at hres
 rename_i b4
 (repeat' (first|refine Xc ?_|refine Xo ?_|(apply Xh;exact rfl;first|(apply Wb;refine X8 ?_;intro _)|(apply Xt;refine Xj (k:=0) (l0:=[]) rfl rfl rfl ?_))))
 rename_i b5
 refine Ws (fun x:Nat×Ex×List TokD=>([(0,ex (.pointer (some ⟨b,0,none⟩))),(1,exI .i64 ((16-n:Nat):Int)),(4,ex (.pointer (some ⟨b4,0,none⟩))),(5,ex (.pointer (some ⟨b5,0,none⟩)))],[Ua b x.2.2 en qs,row b5 52 5 (exV x.1 x.2.1),row b4 52 5 zeroC])) (fun x=>Q9 addT (U7 (termN n)) x.2.1 x.2.2=res∧x.2.2.length≤ts.length) (fun x=>x.2.2.length) (k0,x0,t0) ?_ ⟨hres,hl0⟩ fun x hx=>?_
 · refine Leads.trans (Uo (.swap _ _ _)) ?_
   exact Xg (by repeat (first|exact Xr|refine Xl rfl ?_)) (List.Sublist.refl _)
 obtain ⟨k,x,t⟩:=x
 obtain ⟨hinv,hle⟩:=hx
 simp only at hinv hle ⊢
 clear hres
 rw [T4 rfl (Ug (Re n))] at hinv
 have htk:=Ww b t en qs sPlus
 cases hT:isT sPlus t
 · rw [hT,if_neg Yb9] at htk
   have htm:=Ww b t en qs sMinus
   cases hM:isT sMinus t
   · rw [hM,if_neg Yb9] at htm
     rw [show addT t=false by unfold addT;rw [hT,hM];rfl,if_neg Yb9] at hinv
     (repeat' (first|refine Xe ?_|refine Xb ?_|refine Xc ?_|(apply Xn;(first|exact Xf rfl|exact Xm rfl|exact Ya1);exact rfl)|refine Xo ?_|refine Xw ?_|refine Xy rfl ?_|(apply Xh;exact rfl;first|(apply Xi;first|(refine Xk (.one 0 rfl .nil) Tryz.func155 rfl htk rfl ?_;rintro _ _ ⟨rfl,rfl⟩)|(refine Xk (.one 0 rfl .nil) Tryz.func155 rfl htm rfl ?_;rintro _ _ ⟨rfl,rfl⟩))|(apply Xt;refine Xj (k:=2) (l0:=[]) rfl rfl rfl ?_))))
     all_goals (try (exfalso;first|contradiction|omega))
     exact ⟨.inr rfl,Vd rfl (.cella (k:=2) rfl rfl rfl rfl inferInstance rfl) Ybd ⟨_,_,_,hinv.symm,rfl,rfl⟩⟩
   rw [hM,if_pos rfl] at htm
   obtain ⟨t1,t2,rfl,-,-⟩:=R5 hM
   have k2:=ht b t2 en qs (by simp only [List.length_cons] at hle;omega)
   have hw:U7 (termN n) x (t1::t2)=bnd (termN n) (fun y=>ret (.mk 7 [] 0 0 [x,y])) t2:=by
     unfold U7;rw [if_neg (by rw [hT];simp)];exact Wg (Td hM)
   simp only [List.length_cons] at hle
   rw [show addT (t1::t2)=true by unfold addT;rw [hT,hM];rfl,if_pos rfl] at hinv
   (repeat' (first|(apply Wa 8;refine Stop.out ?_)|refine Xe ?_|refine Xb ?_|refine Xc ?_|(apply Xn;exact Yba;exact rfl)|refine Xo ?_|refine Xx rfl ?_|refine Xy rfl ?_|(apply Xh;exact rfl;(apply Xi;first|(refine Xk (.one 0 rfl .nil) Tryz.func155 rfl htk rfl ?_;rintro _ _ ⟨rfl,rfl⟩)|(refine Xk (.one 0 rfl .nil) Tryz.func155 rfl htm rfl ?_;rintro _ _ ⟨rfl,rfl⟩)))))
   all_goals (try (exfalso;first|contradiction|omega))
   refine ⟨?_⟩
   refine Xaf (K:=Xau en res) (fun ch env loc ⟨e,h1,h2⟩=>?_) ?_
   · ((repeat (first|(with_reducible refine Wh ?_)|(with_reducible refine Wl ?_)));refine X2 (loc':=[]) (List.nil_sublist _) ?_)
     exact ⟨e,h1,h2,rfl⟩
   refine X7 (env':=[(0,ex (.pointer (some ⟨b,0,none⟩))),(1,exI .i64 ((16-n:Nat):Int)),(4,ex (.pointer (some ⟨b4,0,none⟩))),(5,ex (.pointer (some ⟨b5,0,none⟩))),(6,exI .i64 7)]) (loc':=[Ua b t2 en qs,row b5 52 5 (exV k x),row b4 52 5 zeroC]) (Xg (by repeat (first|exact Xr|refine Xl rfl ?_)) (List.Sublist.refl _)) ?_
   (refine Vh ([row b5 52 5 (exV k x)]) 7 rfl ?_)
   all_goals ((apply Wz 0 rfl Yaa rfl Vf Xa;(exact Xf rfl);exact rfl))
   all_goals ((apply Ui 1 rfl Yaa rfl Yaa Vf Xa;(exact Ya1);exact rfl))
   all_goals ((apply Wz 2 rfl Yaa rfl Vf Xa;(exact Xf rfl);exact rfl))
   all_goals ((apply Wz 3 rfl Yaa rfl Vf Xa;(exact Xf rfl);exact rfl))
   all_goals ((apply T0 4;exact Yaa;exact rfl;exact Xa;exact (fun _ _ h=>h);(refine Uv (.one 0 rfl .nil) Tryz.func212 rfl k2 Ybd rfl ?_ ?_;rotate_left;(rintro ch loc ⟨e,g1,rfl,rfl⟩;exact ⟨e,hinv.symm.trans (X1 (hw.trans (X1 g1))),rfl⟩);rintro _ loc ⟨k',y,t3,g1,rfl,rfl⟩;rw [Wg (hw.trans (Wg g1))] at hinv)))
   all_goals ((apply Xu 5;exact Yaa;exact rfl;exact Xa;exact (fun _ _ h=>h);(apply X5;(refine Wi rfl Yac ?_);intro _)))
   all_goals ((apply Wz 6 rfl Yaa rfl Vf Xa;(exact Yay);exact rfl))
   all_goals ((apply Xu 7;exact Yaa;exact rfl;exact Xa;exact (fun h=>absurd h Yao);(apply Xt;refine Xj (k:=2) (hH:=Ydb) rfl rfl rfl ?_)))
   all_goals (refine X9 Yaa ?_)
   rename_i b22
   have hl3:=(Re n).len g1
   refine ⟨(max k k'+1,.mk 7 [] 0 0 [x,y],t3),⟨hinv,by show t3.length≤_;omega⟩,by show t3.length<(t1::t2).length;simp only [List.length_cons];omega,?_⟩
   refine Leads.trans (Vj (k:=0) (b:=b22) (T:=52) (tot:=10) (ps:=exV k x++exV k' y) rfl (Tr (Tx (Nat.le_max_left k k') x) (Tx (Nat.le_max_right k k') y))) ?_
   refine Vu (k:=0) (sz:=5) (n:=2) (c:=2) rfl rfl rfl Yao Yao ?_
   refine Leads.trans (Vi (j:=0) (k:=1) (i:=4) (E:=eEx (max k k')) [x,y] rfl rfl rfl rfl rfl rfl (hby:=by show 2 * 64≤_;decide)) ?_
   exact Xg (by repeat (first|exact Xr|refine Xl rfl ?_)) (List.Sublist.refl _)
 · rw [hT,if_pos rfl] at htk
   obtain ⟨t1,t2,rfl,-,-⟩:=R5 hT
   have k2:=ht b t2 en qs (by simp only [List.length_cons] at hle;omega)
   have hw:U7 (termN n) x (t1::t2)=bnd (termN n) (fun y=>ret (.mk 6 [] 0 0 [x,y])) t2:=by
     unfold U7;rw [if_pos hT];exact Wg (Td hT)
   simp only [List.length_cons] at hle
   rw [show addT (t1::t2)=true by unfold addT;rw [hT];rfl,if_pos rfl] at hinv
   (repeat' (first|(apply Wa 8;refine Stop.out ?_)|refine Xe ?_|refine Xb ?_|refine Xc ?_|(apply Xn;exact Yba;exact rfl)|refine Xo ?_|refine Xx rfl ?_|(apply Xh;exact rfl;(apply Xi;(refine Xk (.one 0 rfl .nil) Tryz.func155 rfl htk rfl ?_;rintro _ _ ⟨rfl,rfl⟩)))))
   all_goals (try (exfalso;first|contradiction|omega))
   refine ⟨?_⟩
   refine Xaf (K:=Xau en res) (fun ch env loc ⟨e,h1,h2⟩=>?_) ?_
   · ((repeat (first|(with_reducible refine Wh ?_)|(with_reducible refine Wl ?_)));refine X2 (loc':=[]) (List.nil_sublist _) ?_)
     exact ⟨e,h1,h2,rfl⟩
   refine X7 (env':=[(0,ex (.pointer (some ⟨b,0,none⟩))),(1,exI .i64 ((16-n:Nat):Int)),(4,ex (.pointer (some ⟨b4,0,none⟩))),(5,ex (.pointer (some ⟨b5,0,none⟩))),(6,exI .i64 6)]) (loc':=[Ua b t2 en qs,row b5 52 5 (exV k x),row b4 52 5 zeroC]) (Xg (by repeat (first|exact Xr|refine Xl rfl ?_)) (List.Sublist.refl _)) ?_
   (refine Vh ([row b5 52 5 (exV k x)]) 7 rfl ?_)
   all_goals ((apply Wz 0 rfl Yaa rfl Vf Xa;(exact Xf rfl);exact rfl))
   all_goals ((apply Ui 1 rfl Yaa rfl Yaa Vf Xa;(exact Ya1);exact rfl))
   all_goals ((apply Wz 2 rfl Yaa rfl Vf Xa;(exact Xf rfl);exact rfl))
   all_goals ((apply Wz 3 rfl Yaa rfl Vf Xa;(exact Xf rfl);exact rfl))
   all_goals ((apply T0 4;exact Yaa;exact rfl;exact Xa;exact (fun _ _ h=>h);(refine Uv (.one 0 rfl .nil) Tryz.func212 rfl k2 Ybd rfl ?_ ?_;rotate_left;(rintro ch loc ⟨e,g1,rfl,rfl⟩;exact ⟨e,hinv.symm.trans (X1 (hw.trans (X1 g1))),rfl⟩);rintro _ loc ⟨k',y,t3,g1,rfl,rfl⟩;rw [Wg (hw.trans (Wg g1))] at hinv)))
   all_goals ((apply Xu 5;exact Yaa;exact rfl;exact Xa;exact (fun _ _ h=>h);(apply X5;(refine Wi rfl Yac ?_);intro _)))
   all_goals ((apply Wz 6 rfl Yaa rfl Vf Xa;(exact Yay);exact rfl))
   all_goals ((apply Xu 7;exact Yaa;exact rfl;exact Xa;exact (fun h=>absurd h Yao);(apply Xt;refine Xj (k:=2) (hH:=Ydb) rfl rfl rfl ?_)))
   all_goals (refine X9 Yaa ?_)
   rename_i b22
   have hl3:=(Re n).len g1
   refine ⟨(max k k'+1,.mk 6 [] 0 0 [x,y],t3),⟨hinv,by show t3.length≤_;omega⟩,by show t3.length<(t1::t2).length;simp only [List.length_cons];omega,?_⟩
   refine Leads.trans (Vj (k:=0) (b:=b22) (T:=52) (tot:=10) (ps:=exV k x++exV k' y) rfl (Tr (Tx (Nat.le_max_left k k') x) (Tx (Nat.le_max_right k k') y))) ?_
   refine Vu (k:=0) (sz:=5) (n:=2) (c:=2) rfl rfl rfl Yao Yao ?_
   refine Leads.trans (Vi (j:=0) (k:=1) (i:=4) (E:=eEx (max k k')) [x,y] rfl rfl rfl rfl rfl rfl (hby:=by show 2 * 64≤_;decide)) ?_
   exact Xg (by repeat (first|exact Xr|refine Xl rfl ?_)) (List.Sublist.refl _)
end Go.Proofs.YthdldeenpgeemaaGreatDoor
namespace Go.Fr
open Go.RowKit Go.Kx
theorem Xbi (k:Int) (nm:List UInt8) (n d:Int):Ims [exI .i64 k,exT nm,exI .i64 n,exI .i64 d,ex (.slice none 0 0)] (exV 1 (.mk k nm n d [])):= .cons (Im.refl _) (.cons (Im.refl _) (.cons (Im.refl _) (.cons (Im.refl _) (.cons Im.nil .nil))))
end Go.Fr
namespace Go.Proofs.YthdldeenpgeemaaGreatDoor
open Go Go.RowKit Go.Kx Go.Fr Go.Lx Go.Sx
def facN:Nat→List TokD→Res Ex
 | 0=>Vc false (fun ts=> .error ts)
 | n+1=>Vc true (Ty n)
theorem Xg8 (n:Nat) (hn:n≤16) (b:Nat) (ts:List TokD) (en:Nat) (qs:List SP) (hts:ts.length≤70000) (h0:Sx.isName ts=true):FnP Tryz.prog 227 [ex (.pointer (some ⟨b,0,none⟩)),exI .i64 ((16-n:Nat):Int)] [Ua b ts en qs] (fun p loc=> ∃(k:Nat) (x:Ex) (r:List TokD),facN n ts= .ok (x,r)∧p=agg (exV k x)∧loc=[Ua b r en qs]) (fun ch loc=> ∃e,facN n ts= .error e∧V4 en e ch loc):=by
 have hnm:=Vw b ts en qs
 rw [h0] at hnm
 have hf:facN n ts=bnd Rs (fun nm=>ret (.mk 2 nm 0 0 [])) ts:=by cases n<;>exact if_pos h0
 rw [hf]
 cases ts with
 | nil=>cases h0
 | cons t r=>
   have hl:(t::r).length=r.length+1:=rfl
   have hres:bnd Rs (fun nm=>ret (Ex.mk 2 nm 0 0 [])) (t::r)= .ok (.mk 2 t.text 0 0 [],r):=Wg (Xh7 h0)
   rw [hres]
   replace hres:(Except.ok (.mk 2 t.text 0 0 [],r):Res Ex)= .ok (.mk 2 t.text 0 0 [],r):=rfl
   refine Wx Tryz.func227 rfl Tryz.ntmps227 rfl fun w0 F0 out=>?_
   (repeat' (first|(apply Wa 7;refine Stop.out ?_)|refine Xe ?_|refine Xb ?_|refine Xc ?_|(apply Xn;exact Yba;exact rfl)|refine Xo ?_|refine Xx rfl ?_|(apply Xh;exact rfl;first|(apply Xi;(refine Xk (.one 1 rfl .nil) Tryz.func183 rfl hnm rfl ?_;rintro _ _ ⟨rfl,rfl⟩))|(apply Wb;refine X8 ?_;intro _))))
   all_goals (try (exfalso;first|contradiction|omega))
   refine ⟨?_⟩
   refine Xaf (K:=fun _ _=>False) (fun _ _ _ h=>h.elim) ?_
   (refine Vh ([Ua b (t::r) en qs]) 11 rfl ?_)
   all_goals ((apply Wz 0 rfl Yaa rfl Vf Xa;(exact Xf rfl);exact rfl))
   all_goals ((apply Wz 1 rfl Yaa rfl Vf Xa;(exact Yat);exact rfl))
   all_goals ((apply Wz 2 rfl Yaa rfl Vf Xa;(exact Yad);exact rfl))
   all_goals ((apply Ui 3 rfl Yaa rfl Yaa Vf Xa;(exact Yai);exact rfl))
   all_goals ((apply Wz 4 rfl Yaa rfl Vf Xa;(exact Yah);exact rfl))
   all_goals ((apply Wz 5 rfl Yaa rfl Vf Xa;(exact Yae);exact rfl))
   all_goals ((apply Ui 6 rfl Yaa rfl Yaa Vf Xa;(exact Yag);exact rfl))
   all_goals ((apply Wz 7 rfl Yaa rfl Vf Xa;(exact Yad);exact rfl))
   all_goals ((apply Xu 8;exact Yaa;exact rfl;exact Xa;exact (fun _ _ h=>h);(apply Xt;refine Xj (k:=1) (hH:=Ycr) rfl rfl rfl ?_)))
   all_goals ((apply Wz 9 rfl Yaa rfl Vf Xa;(exact Yad);exact rfl))
   all_goals ((apply Xu 10;exact Yaa;exact rfl;exact Xa;exact (fun _ _ h=>h);(apply Xt;refine Xj (k:=1) (hH:=Ycr) rfl rfl rfl ?_)))
   all_goals (refine X9 Yaa ?_)
   all_goals ((repeat' (first|refine Xe ?_|refine Xb ?_|refine Xc ?_|(apply Xn;(first|exact Xf rfl|(apply V6;first|exact Ud (k:=0) rfl rfl rfl rfl|exact Vk (k:=1) rfl rfl rfl)|exact Yad|(apply Qx;exact Xhw rfl rfl rfl)|exact Yat);exact rfl)|refine Xw ?_|(apply Xh;exact rfl;(apply Xt;first|refine Xj (k:=0) (l0:=[]) rfl rfl rfl ?_|refine Xj (k:=1) (l0:=[]) rfl rfl rfl ?_)))))
   all_goals (try (exfalso;first|contradiction|omega))
   exact ⟨.inr rfl,Xbz (Vd rfl (.cella (k:=1) rfl rfl rfl rfl inferInstance rfl) Ybd ⟨rfl,rfl⟩) (Ims.agg (Xbi _ _ _ _)) ⟨1,_,_,hres.symm,rfl,rfl⟩⟩
theorem Xfo (n:Nat) (hn:n≤16) (b:Nat) (ts:List TokD) (en:Nat) (qs:List SP) (hts:ts.length≤70000) (h0:Sx.isName ts=false) (h1:isT wBonus ts=true):FnP Tryz.prog 227 [ex (.pointer (some ⟨b,0,none⟩)),exI .i64 ((16-n:Nat):Int)] [Ua b ts en qs] (fun p loc=> ∃(k:Nat) (x:Ex) (r:List TokD),facN n ts= .ok (x,r)∧p=agg (exV k x)∧loc=[Ua b r en qs]) (fun ch loc=> ∃e,facN n ts= .error e∧V4 en e ch loc):=by
 have hnm:=Vw b ts en qs
 rw [h0] at hnm
 have htb:=Ww b ts en qs wBonus
 rw [h1] at htb
 rw [if_pos rfl] at htb
 have hres:facN n ts= .ok (.mk 3 [] 0 0 [],ts.tail):=by
   have hf:facN n ts=bnd (want wBonus) (fun _=>ret (.mk 3 [] 0 0 [])) ts:=by
     cases n
     · show Vc false _ ts=_
       unfold Vc;rw [if_neg Ycs,if_pos h1]
     · show Vc true _ ts=_
       unfold Vc;rw [if_neg Ycs,if_pos h1]
   exact hf.trans (Wg (Td h1))
 rw [hres]
 replace hres:(Except.ok (.mk 3 [] 0 0 [],ts.tail):Res Ex)= .ok (.mk 3 [] 0 0 [],ts.tail):=rfl
 refine Wx Tryz.func227 rfl Tryz.ntmps227 rfl fun w0 F0 out=>?_
 (repeat' (first|refine Xe ?_|refine Xb ?_|refine Xc ?_|(apply Xn;(first|exact Xf rfl|exact Xm rfl|exact Ya1|exact Yad);exact rfl)|refine Xo ?_|refine Xw ?_|refine Xx rfl ?_|refine Xy rfl ?_|(apply Xh;exact rfl;first|(apply Xi;first|(refine Xk (.one 1 rfl .nil) Tryz.func183 rfl hnm rfl ?_;rintro _ _ ⟨rfl,rfl⟩)|(refine Xk (.one 0 rfl .nil) Tryz.func155 rfl htb rfl ?_;rintro _ _ ⟨rfl,rfl⟩))|(apply Wb;refine X8 ?_;intro _)|(apply Xt;refine Xj (k:=1) (l0:=[]) rfl rfl rfl ?_))))
 all_goals (try (exfalso;first|contradiction|omega))
 exact ⟨.inr rfl,Xbz (Vd rfl (.cella (k:=1) rfl rfl rfl rfl inferInstance rfl) Ybd ⟨rfl,rfl⟩) (Ims.agg (Xbi _ _ _ _)) ⟨1,_,_,hres.symm,rfl,rfl⟩⟩
theorem Xfp (n:Nat) (hn:n≤16) (b:Nat) (ts:List TokD) (en:Nat) (qs:List SP) (hts:ts.length≤70000) (h0:Sx.isName ts=false) (h1:isT wBonus ts=false) (h2:isT wMalus ts=true):FnP Tryz.prog 227 [ex (.pointer (some ⟨b,0,none⟩)),exI .i64 ((16-n:Nat):Int)] [Ua b ts en qs] (fun p loc=> ∃(k:Nat) (x:Ex) (r:List TokD),facN n ts= .ok (x,r)∧p=agg (exV k x)∧loc=[Ua b r en qs]) (fun ch loc=> ∃e,facN n ts= .error e∧V4 en e ch loc):=by
 have hnm:=Vw b ts en qs
 rw [h0] at hnm
 have htb:=Ww b ts en qs wBonus
 rw [h1] at htb
 rw [if_neg Yb9] at htb
 have htm:=Ww b ts en qs wMalus
 rw [h2] at htm
 rw [if_pos rfl] at htm
 have hres:facN n ts= .ok (.mk 4 [] 0 0 [],ts.tail):=by
   have hf:facN n ts=bnd (want wMalus) (fun _=>ret (.mk 4 [] 0 0 [])) ts:=by
     cases n
     · show Vc false _ ts=_
       unfold Vc;rw [if_neg Ycs,if_neg Ycx,if_pos h2]
     · show Vc true _ ts=_
       unfold Vc;rw [if_neg Ycs,if_neg Ycx,if_pos h2]
   exact hf.trans (Wg (Td h2))
 rw [hres]
 replace hres:(Except.ok (.mk 4 [] 0 0 [],ts.tail):Res Ex)= .ok (.mk 4 [] 0 0 [],ts.tail):=rfl
 refine Wx Tryz.func227 rfl Tryz.ntmps227 rfl fun w0 F0 out=>?_
 (repeat' (first|refine Xe ?_|refine Xb ?_|refine Xc ?_|(apply Xn;(first|exact Xf rfl|exact Xm rfl|exact Ya1|exact Yad);exact rfl)|refine Xo ?_|refine Xw ?_|refine Xx rfl ?_|refine Xy rfl ?_|(apply Xh;exact rfl;first|(apply Xi;first|(refine Xk (.one 1 rfl .nil) Tryz.func183 rfl hnm rfl ?_;rintro _ _ ⟨rfl,rfl⟩)|(refine Xk (.one 0 rfl .nil) Tryz.func155 rfl htb rfl ?_;rintro _ _ ⟨rfl,rfl⟩)|(refine Xk (.one 0 rfl .nil) Tryz.func155 rfl htm rfl ?_;rintro _ _ ⟨rfl,rfl⟩))|(apply Wb;refine X8 ?_;intro _)|(apply Xt;refine Xj (k:=1) (l0:=[]) rfl rfl rfl ?_))))
 all_goals (try (exfalso;first|contradiction|omega))
 exact ⟨.inr rfl,Xbz (Vd rfl (.cella (k:=1) rfl rfl rfl rfl inferInstance rfl) Ybd ⟨rfl,rfl⟩) (Ims.agg (Xbi _ _ _ _)) ⟨1,_,_,hres.symm,rfl,rfl⟩⟩
theorem Xfq (n:Nat) (hn:n≤16) (b:Nat) (ts:List TokD) (en:Nat) (qs:List SP) (hts:ts.length≤70000) (h0:Sx.isName ts=false) (h1:isT wBonus ts=false) (h2:isT wMalus ts=false) (h3:isT wRound ts=true):FnP Tryz.prog 227 [ex (.pointer (some ⟨b,0,none⟩)),exI .i64 ((16-n:Nat):Int)] [Ua b ts en qs] (fun p loc=> ∃(k:Nat) (x:Ex) (r:List TokD),facN n ts= .ok (x,r)∧p=agg (exV k x)∧loc=[Ua b r en qs]) (fun ch loc=> ∃e,facN n ts= .error e∧V4 en e ch loc):=by
 have hnm:=Vw b ts en qs
 rw [h0] at hnm
 have htb:=Ww b ts en qs wBonus
 rw [h1] at htb
 rw [if_neg Yb9] at htb
 have htm:=Ww b ts en qs wMalus
 rw [h2] at htm
 rw [if_neg Yb9] at htm
 have hir:=W3 b ts en qs wRound
 rw [h3] at hir
 have hf:facN n ts=bnd (S9 wRound) (fun nm=>ret (.mk 5 nm 0 0 [])) ts:=by
   cases n
   · show Vc false _ ts=_
     unfold Vc;rw [if_neg Ycs,if_neg Ycx,if_neg Ydr,if_pos h3]
   · show Vc true _ ts=_
     unfold Vc;rw [if_neg Ycs,if_neg Ycx,if_neg Ydr,if_pos h3]
 rw [hf]
 generalize hres:bnd (S9 wRound) (fun nm=>ret (Ex.mk 5 nm 0 0 [])) ts=res
 have k1:=Te b ts en qs wRound
 refine Wx Tryz.func227 rfl Tryz.ntmps227 rfl fun w0 F0 out=>?_
 (repeat' (first|(apply X4 51;refine Wc (.one 0 rfl .nil) Tryz.func145 rfl k1 rfl ?_ ?_)|refine Xe ?_|refine Xb ?_|refine Xc ?_|(apply Xn;exact Yba;exact rfl)|refine Xo ?_|refine Xx rfl ?_|refine Xy rfl ?_|(apply Xh;exact rfl;first|(apply Xi;first|(refine Xk (.one 1 rfl .nil) Tryz.func183 rfl hnm rfl ?_;rintro _ _ ⟨rfl,rfl⟩)|(refine Xk (.one 0 rfl .nil) Tryz.func155 rfl htb rfl ?_;rintro _ _ ⟨rfl,rfl⟩)|(refine Xk (.one 0 rfl .nil) Tryz.func155 rfl htm rfl ?_;rintro _ _ ⟨rfl,rfl⟩)|(refine Xk (.one 0 rfl .nil) Tryz.func184 rfl hir rfl ?_;rintro _ _ ⟨rfl,rfl⟩))|(apply Wb;refine X8 ?_;intro _))))
 all_goals (try (exfalso;first|contradiction|omega))
 rotate_left
 · rintro ch loc ⟨e,g1,rfl,rfl⟩;((repeat (first|(with_reducible refine Wh ?_)|(with_reducible refine Wl ?_)));refine X2 (loc':=[]) (List.nil_sublist _) ?_);exact ⟨e,hres.symm.trans (X1 g1),rfl,rfl⟩
 rintro _ loc ⟨nm,t1,g1,rfl,rfl⟩
 rw [Wg g1] at hres
 (repeat' (first|refine Xe ?_|refine Xb ?_|refine Xc ?_|(apply Xn;(first|exact Ya1|exact Yad);exact rfl)|refine Xw ?_|(apply Xh;exact rfl;(apply Xt;refine Xj (k:=1) (l0:=[]) rfl rfl rfl ?_))))
 exact ⟨.inr rfl,Xbz (Vd rfl (.cella (k:=1) rfl rfl rfl rfl inferInstance rfl) Ybd ⟨rfl,rfl⟩) (Ims.agg (Xbi _ _ _ _)) ⟨1,_,_,hres.symm,rfl,rfl⟩⟩
end Go.Proofs.YthdldeenpgeemaaGreatDoor
namespace Go.Proofs.YthdldeenpgeemaaGreatDoor
open Go Go.RowKit Go.Kx Go.Fr Go.Lx Go.Sx
theorem Xeh (b:Nat) (ts:List TokD) (en:Nat) (qs:List SP) (hts:ts.length≤70000) (h0:Sx.isName ts=false) (h1:isT wBonus ts=false) (h2:isT wMalus ts=false) (h3:isT wRound ts=false) (h4:isT wLeast ts=true):FnP Tryz.prog 227 [ex (.pointer (some ⟨b,0,none⟩)),exI .i64 16] [Ua b ts en qs] (fun p loc=> ∃(k:Nat) (x:Ex) (r:List TokD),facN 0 ts= .ok (x,r)∧p=agg (exV k x)∧loc=[Ua b r en qs]) (fun ch loc=> ∃e,facN 0 ts= .error e∧V4 en e ch loc):=by
 have hnm:=Vw b ts en qs
 rw [h0] at hnm
 have htb:=Ww b ts en qs wBonus
 rw [h1] at htb
 rw [if_neg Yb9] at htb
 have htm:=Ww b ts en qs wMalus
 rw [h2] at htm
 rw [if_neg Yb9] at htm
 have hir:=W3 b ts en qs wRound
 rw [h3] at hir
 have hil:=W3 b ts en qs wLeast
 rw [h4] at hil
 have hf:facN 0 ts= .error ts:=by
   show Vc false _ ts=_
   unfold Vc;rw [if_neg Ycs,if_neg Ycx,if_neg Ydr,if_neg Yea,if_pos h4];rfl
 have k1:=Sa b ts en qs
 refine Wx Tryz.func227 rfl Tryz.ntmps227 rfl fun w0 F0 out=>?_
 (repeat' (first|(apply X4 61;refine Wc (.one 0 rfl .nil) Tryz.func228 rfl k1 rfl ?_ ?_)|refine Xe ?_|refine Xb ?_|refine Xc ?_|(apply Xn;exact Yba;exact rfl)|refine Xo ?_|refine Xs ?_|refine Xx rfl ?_|refine Xy rfl ?_|(apply Xh;exact rfl;first|(apply Xi;first|(refine Xk (.one 1 rfl .nil) Tryz.func183 rfl hnm rfl ?_;rintro _ _ ⟨rfl,rfl⟩)|(refine Xk (.one 0 rfl .nil) Tryz.func155 rfl htb rfl ?_;rintro _ _ ⟨rfl,rfl⟩)|(refine Xk (.one 0 rfl .nil) Tryz.func155 rfl htm rfl ?_;rintro _ _ ⟨rfl,rfl⟩)|(refine Xk (.one 0 rfl .nil) Tryz.func184 rfl hir rfl ?_;rintro _ _ ⟨rfl,rfl⟩)|(refine Xk (.one 0 rfl .nil) Tryz.func184 rfl hil rfl ?_;rintro _ _ ⟨rfl,rfl⟩))|(apply Wb;refine X8 ?_;intro _))))
 all_goals (try (exfalso;first|contradiction|omega))
 · rintro _ _ h;exact h.elim
 · rintro ch loc ⟨rfl,rfl⟩;((repeat (first|(with_reducible refine Wh ?_)|(with_reducible refine Wl ?_)));refine X2 (loc':=[]) (List.nil_sublist _) ?_);exact ⟨ts,hf,rfl,rfl⟩
theorem Xei (n:Nat) (hn:n+1≤16) (b:Nat) (ts:List TokD) (en:Nat) (qs:List SP) (hts:ts.length≤70000) (h0:Sx.isName ts=false) (h1:isT wBonus ts=false) (h2:isT wMalus ts=false) (h3:isT wRound ts=false) (h4:isT wLeast ts=true) (hx:Xbh 189 Ty n):FnP Tryz.prog 227 [ex (.pointer (some ⟨b,0,none⟩)),exI .i64 ((16-(n+1):Nat):Int)] [Ua b ts en qs] (fun p loc=> ∃(k:Nat) (x:Ex) (r:List TokD),facN (n+1) ts= .ok (x,r)∧p=agg (exV k x)∧loc=[Ua b r en qs]) (fun ch loc=> ∃e,facN (n+1) ts= .error e∧V4 en e ch loc):=by
 have hnm:=Vw b ts en qs
 rw [h0] at hnm
 have htb:=Ww b ts en qs wBonus
 rw [h1] at htb
 rw [if_neg Yb9] at htb
 have htm:=Ww b ts en qs wMalus
 rw [h2] at htm
 rw [if_neg Yb9] at htm
 have hir:=W3 b ts en qs wRound
 rw [h3] at hir
 have hil:=W3 b ts en qs wLeast
 rw [h4] at hil
 have hf:facN (n+1) ts=Xa1 (Ty n) 9 ts.tail:=by
   show Vc true _ ts=_
   unfold Vc;rw [if_neg Ycs,if_neg Ycx,if_neg Ydr,if_neg Yea,if_pos h4]
   exact Wg (Td h4)
 rw [hf]
 generalize hres:Xa1 (Ty n) 9 ts.tail=res
 unfold Xa1 at hres
 have htl:ts.tail.length≤ts.length:=by rw [List.length_tail];omega
 have k1:=Tw b ts en qs n hn
 have g0:oneP [wLeast,wGreatest] 0 ts= .ok (1,ts.tail):=by rw [oneP,if_pos h4]
 have k2:=Qh b ts en qs [wLeast,wGreatest] Yao
 rw [g0] at k2
 have k3:=Vg b ts.tail en qs sOpen
 refine Wx Tryz.func227 rfl Tryz.ntmps227 rfl fun w0 F0 out=>?_
 (repeat' (first|(apply X4 65;refine Wj (k:=0) (E:=eStr) (t:=64) [wLeast,wGreatest] rfl rfl rfl rfl ?_ (hc:=by decide) (hby:=by decide);refine Wj (k:=0) (E:=eI) (t:=62) [9,10] rfl rfl rfl rfl ?_ (hc:=by decide) (hby:=by decide);refine Wc (.one 0 rfl .nil) Tryz.func185 rfl k2 rfl ?_ ?_)|refine Xe ?_|refine Xb ?_|refine Xc ?_|(apply Xn;exact Yba;exact rfl)|refine Xo ?_|refine Xs ?_|refine Xx rfl ?_|refine Xy rfl ?_|(apply Xh;exact rfl;first|(apply Xi;first|(refine Xk (.one 1 rfl .nil) Tryz.func183 rfl hnm rfl ?_;rintro _ _ ⟨rfl,rfl⟩)|(refine Xk (.one 0 rfl .nil) Tryz.func155 rfl htb rfl ?_;rintro _ _ ⟨rfl,rfl⟩)|(refine Xk (.one 0 rfl .nil) Tryz.func155 rfl htm rfl ?_;rintro _ _ ⟨rfl,rfl⟩)|(refine Xk (.one 0 rfl .nil) Tryz.func184 rfl hir rfl ?_;rintro _ _ ⟨rfl,rfl⟩)|(refine Xk (.one 0 rfl .nil) Tryz.func184 rfl hil rfl ?_;rintro _ _ ⟨rfl,rfl⟩)|(refine Xk (.one 0 rfl .nil) Tryz.func228 rfl k1 rfl ?_;rintro _ _ ⟨rfl,rfl⟩))|(apply Wb;refine X8 ?_;intro _)|(apply X5;(refine Wi rfl Yac ?_);intro _))))
 all_goals (try (exfalso;first|contradiction|omega))
 rotate_left
 · rintro ch loc ⟨e,g1,_⟩;cases g1
 rintro _ loc ⟨i,t1,g1,rfl,rfl⟩
 injection g1 with g1;injection g1 with g1 g2;subst g1 g2
 rename_i b4 _ _
 (repeat' (first|(apply X4 71;refine Wc (.one 0 rfl .nil) Tryz.func146 rfl k3 rfl ?_ ?_)|refine Xe ?_|refine Xb ?_|refine Xc ?_|(apply Xn;exact Yey;exact rfl)|(apply Xh;exact rfl;(apply Xt;refine Xj (k:=1) (l0:=[]) rfl rfl rfl ?_))))
 rotate_left
 · rintro ch loc ⟨e,g1,rfl,rfl⟩;((repeat (first|(with_reducible refine Wh ?_)|(with_reducible refine Wl ?_)));refine X2 (loc':=[]) (List.nil_sublist _) ?_);exact ⟨e,hres.symm.trans (X1 g1),rfl,rfl⟩
 rintro _ loc ⟨t1,g1,rfl⟩
 have hl1:=(W7 (Q:=TT) (Ss sOpen)).len g1
 rw [Wg g1] at hres
 have k4:=hx b t1 en qs Yan
 (repeat' (first|(apply Wa 20;refine Stop.out ?_)|refine Xe ?_|refine Xc ?_))
 refine ⟨?_⟩
 refine Xaf (K:=Xau en res) (fun ch env loc ⟨e,h1,h2⟩=>?_) ?_
 · ((repeat (first|(with_reducible refine Wh ?_)|(with_reducible refine Wl ?_)));refine X2 (loc':=[]) (List.nil_sublist _) ?_)
   exact ⟨e,h1,h2,rfl⟩
 refine X7 (env':=[(0,ex (.pointer (some ⟨b,0,none⟩))),(1,exI .i64 ((16-n:Nat):Int)),(4,ex (.pointer (some ⟨b4,0,none⟩)))]) (loc':=[Ua b t1 en qs,row b4 52 5 [exI .i64 9,exT [],exI .i64 0,exI .i64 0,ex (.slice none 0 0)]]) (Xg (by repeat (first|exact Xr|refine Xl rfl ?_)) (List.Sublist.refl _)) ?_
 (refine Vh ([row b4 52 5 [exI .i64 9,exT [],exI .i64 0,exI .i64 0,ex (.slice none 0 0)]]) 8 rfl ?_)
 all_goals ((apply Wz 0 rfl Yaa rfl Vf Xa;(exact Yad);exact rfl))
 all_goals ((apply Ui 1 rfl Yaa rfl Yaa Vf Xa;(exact Ya0);exact rfl))
 all_goals ((apply Wz 2 rfl Yaa rfl Vf Xa;(exact Xf rfl);exact rfl))
 all_goals ((apply Wz 3 rfl Yaa rfl Vf Xa;(exact Xf rfl);exact rfl))
 all_goals ((apply T0 4;exact Yaa;exact rfl;exact Xa;exact (fun _ _ h=>h);(refine Uv (.one 0 rfl .nil) Tryz.func189 rfl k4 Ybd rfl ?_ ?_;rotate_left;(rintro ch loc ⟨e,g2,rfl,rfl⟩;exact ⟨e,hres.symm.trans (X1 g2),rfl⟩);rintro _ loc ⟨kx,x,t2,g2,rfl,rfl⟩;rw [Wg g2] at hres)))
 all_goals ((apply Xu 5;exact Yaa;exact rfl;exact Xa;exact (fun _ _ h=>h);(apply X5;(refine X6 rfl rfl ?_);intro _)))
 all_goals ((apply Xu 6;exact Yaa;exact rfl;exact Xa;exact (fun _ _ h=>h);(apply Ve;((refine R1 (hH:=Yca) rfl Yby rfl ?_));intro _)))
 all_goals ((apply Wz 7 rfl Yaa rfl Vf Xa;(exact Yad);exact rfl))
 all_goals ((apply Xu 8;exact Yaa;exact rfl;exact Xa;exact (fun h=>absurd h Yao);(apply Xt;refine Xfi (H:=Tp []) (k:=0) rfl ?_;intro _ _ hv;subst hv;refine Xj (k:=3) (hH:=Ydb) rfl rfl rfl ?_)))
 all_goals (refine X9 Yaa ?_)
 rename_i b77 oa c
 have hl2:=(Xb8 n).len g2
 have k5:=Vg b t2 en qs sComma
 (repeat' (first|(apply X4 81;refine Wc (.one 2 rfl .nil) Tryz.func146 rfl k5 rfl ?_ ?_)|refine Xe ?_|refine Xb ?_|(apply Xn;(exact Xf rfl);exact rfl)))
 rotate_left
 · rintro ch loc ⟨e,g3,rfl,rfl⟩;((repeat (first|(with_reducible refine Wh ?_)|(with_reducible refine Wl ?_)));refine X2 (loc':=[]) (List.nil_sublist _) ?_);exact ⟨e,hres.symm.trans (X1 g3),rfl,rfl⟩
 rintro _ loc ⟨t3,g3,rfl⟩
 have hl3:=(W7 (Q:=TT) (Ss sComma)).len g3
 rw [Wg g3] at hres
 have k6:=hx b t3 en qs Yan
 (repeat' (first|(apply Wa 22;refine Stop.out ?_)|refine Xe ?_|refine Xc ?_))
 refine ⟨?_⟩
 refine Xaf (K:=Xau en res) (fun ch env loc ⟨e,h1,h2⟩=>?_) ?_
 · ((repeat (first|(with_reducible refine Wh ?_)|(with_reducible refine Wl ?_)));refine X2 (loc':=[]) (List.nil_sublist _) ?_)
   exact ⟨e,h1,h2,rfl⟩
 refine X7 (env':=[(0,ex (.pointer (some ⟨b,0,none⟩))),(1,exI .i64 ((16-n:Nat):Int)),(4,ex (.pointer (some ⟨b4,0,none⟩)))]) (loc':=[Ua b t3 en qs,vec (.slice oa 1 c) 52 5 1 (exV kx x),row b4 52 5 [exI .i64 9,exT [],exI .i64 0,exI .i64 0,ex (.slice oa 1 c)]]) (Xg (by repeat (first|exact Xr|refine Xl rfl ?_)) (by exact .cons_cons _ (.cons_cons _ (.cons _ (.refl _))))) ?_
 (refine Vh ([row b4 52 5 [exI .i64 9,exT [],exI .i64 0,exI .i64 0,ex (.slice oa 1 c)]]) 8 rfl ?_)
 all_goals ((apply Wz 0 rfl Yaa rfl Vf Xa;(exact Yad);exact rfl))
 all_goals ((apply Ui 1 rfl Yaa rfl Yaa Vf Xa;(exact Yev);exact rfl))
 all_goals ((apply Wz 2 rfl Yaa rfl Vf Xa;(exact Xf rfl);exact rfl))
 all_goals ((apply Wz 3 rfl Yaa rfl Vf Xa;(exact Xf rfl);exact rfl))
 all_goals ((apply T0 4;exact Yaa;exact rfl;exact Xa;exact (fun _ _ h=>h);(refine Uv (.one 0 rfl .nil) Tryz.func189 rfl k6 Ye7 rfl ?_ ?_;rotate_left;(rintro ch loc ⟨e,g4,rfl,rfl⟩;exact ⟨e,hres.symm.trans (X1 g4),rfl⟩);rintro _ loc ⟨ky,y,t4,g4,rfl,rfl⟩;rw [Wg g4] at hres)))
 all_goals ((apply Xu 5;exact Yaa;exact rfl;exact Xa;exact (fun _ _ h=>h);(apply X5;(refine X6 rfl rfl ?_);intro _)))
 all_goals ((apply Xu 6;exact Yaa;exact rfl;exact Xa;exact (fun _ _ h=>h);(apply Ve;((refine Vb (k:=2) (hH:=Yca) rfl rfl Yby rfl ?_));intro _)))
 all_goals ((apply Wz 7 rfl Yaa rfl Vf Xa;(exact Yad);exact rfl))
 all_goals ((apply Xu 8;exact Yaa;exact rfl;exact Xa;exact (fun h=>absurd h Yao);(apply Xt;refine Xfi (H:=Tp []) (k:=2) rfl ?_;intro _ _ hv;subst hv;refine Xj (k:=3) (hH:=Ydb) rfl rfl rfl ?_)))
 all_goals (refine X9 Yaa ?_)
 rename_i b87 oa2 c2
 have k7:=Vg b t4 en qs sClose
 (repeat' (first|(apply X4 91;refine Wc (.one 1 rfl .nil) Tryz.func146 rfl k7 rfl ?_ ?_)|refine Xb ?_|(apply Xn;(exact Xf rfl);exact rfl)))
 rotate_left
 · rintro ch loc ⟨e,g5,rfl,rfl⟩;((repeat (first|(with_reducible refine Wh ?_)|(with_reducible refine Wl ?_)));refine X2 (loc':=[]) (List.nil_sublist _) ?_);exact ⟨e,hres.symm.trans (X1 g5),rfl,rfl⟩
 rintro _ loc ⟨t5,g5,rfl⟩
 rw [Wg g5] at hres
 (repeat' (first|(apply W2 34;refine Stop.out ?_)|refine Xc ?_))
 refine ⟨X7 (Leads.trans (Sf (k:=2) (ps:=exV kx x++exV ky y) rfl (Tr (Tx (Nat.le_max_left kx ky) x) (Tx (Nat.le_max_right kx ky) y))) (Vi (j:=2) (k:=2) (i:=4) (E:=eEx (max kx ky)) [x,y] rfl rfl rfl rfl rfl rfl (hby:=by show 2 * 64≤_;decide))) ?_⟩
 (repeat' (first|refine Xe ?_|refine Xb ?_|refine Xc ?_|(apply Xn;(exact Ybk);exact rfl)|refine Xw ?_|(apply Xh;exact rfl;(apply Xt;refine Xj (k:=2) (l0:=[]) rfl rfl rfl ?_))))
 exact ⟨.inr rfl,Vd rfl (.cella (k:=2) rfl rfl rfl rfl inferInstance rfl) Ybd ⟨max kx ky+1,_,_,hres.symm,rfl,rfl⟩⟩
theorem Xb0 (b:Nat) (ts:List TokD) (en:Nat) (qs:List SP) (hts:ts.length≤70000) (h0:Sx.isName ts=false) (h1:isT wBonus ts=false) (h2:isT wMalus ts=false) (h3:isT wRound ts=false) (h4:isT wLeast ts=false) (h5:isT wGreatest ts=true):FnP Tryz.prog 227 [ex (.pointer (some ⟨b,0,none⟩)),exI .i64 16] [Ua b ts en qs] (fun p loc=> ∃(k:Nat) (x:Ex) (r:List TokD),facN 0 ts= .ok (x,r)∧p=agg (exV k x)∧loc=[Ua b r en qs]) (fun ch loc=> ∃e,facN 0 ts= .error e∧V4 en e ch loc):=by
 have hnm:=Vw b ts en qs
 rw [h0] at hnm
 have htb:=Ww b ts en qs wBonus
 rw [h1] at htb
 rw [if_neg Yb9] at htb
 have htm:=Ww b ts en qs wMalus
 rw [h2] at htm
 rw [if_neg Yb9] at htm
 have hir:=W3 b ts en qs wRound
 rw [h3] at hir
 have hil:=W3 b ts en qs wLeast
 rw [h4] at hil
 have hig:=W3 b ts en qs wGreatest
 rw [h5] at hig
 have hf:facN 0 ts= .error ts:=by
   show Vc false _ ts=_
   unfold Vc;rw [if_neg Ycs,if_neg Ycx,if_neg Ydr,if_neg Yea,if_neg Yer,if_pos h5];rfl
 have k1:=Sa b ts en qs
 refine Wx Tryz.func227 rfl Tryz.ntmps227 rfl fun w0 F0 out=>?_
 (repeat' (first|(apply X4 61;refine Wc (.one 0 rfl .nil) Tryz.func228 rfl k1 rfl ?_ ?_)|refine Xe ?_|refine Xb ?_|refine Xc ?_|(apply Xn;exact Yba;exact rfl)|refine Xo ?_|refine Xx rfl ?_|refine Xy rfl ?_|(apply Xh;exact rfl;first|(apply Xi;first|(refine Xk (.one 1 rfl .nil) Tryz.func183 rfl hnm rfl ?_;rintro _ _ ⟨rfl,rfl⟩)|(refine Xk (.one 0 rfl .nil) Tryz.func155 rfl htb rfl ?_;rintro _ _ ⟨rfl,rfl⟩)|(refine Xk (.one 0 rfl .nil) Tryz.func155 rfl htm rfl ?_;rintro _ _ ⟨rfl,rfl⟩)|(refine Xk (.one 0 rfl .nil) Tryz.func184 rfl hir rfl ?_;rintro _ _ ⟨rfl,rfl⟩)|(refine Xk (.one 0 rfl .nil) Tryz.func184 rfl hil rfl ?_;rintro _ _ ⟨rfl,rfl⟩)|(refine Xk (.one 0 rfl .nil) Tryz.func184 rfl hig rfl ?_;rintro _ _ ⟨rfl,rfl⟩))|(apply Wb;refine X8 ?_;intro _))))
 all_goals (try (exfalso;first|contradiction|omega))
 · rintro _ _ h;exact h.elim
 · rintro ch loc ⟨rfl,rfl⟩;((repeat (first|(with_reducible refine Wh ?_)|(with_reducible refine Wl ?_)));refine X2 (loc':=[]) (List.nil_sublist _) ?_);exact ⟨ts,hf,rfl,rfl⟩
theorem Xb1 (n:Nat) (hn:n+1≤16) (b:Nat) (ts:List TokD) (en:Nat) (qs:List SP) (hts:ts.length≤70000) (h0:Sx.isName ts=false) (h1:isT wBonus ts=false) (h2:isT wMalus ts=false) (h3:isT wRound ts=false) (h4:isT wLeast ts=false) (h5:isT wGreatest ts=true) (hx:Xbh 189 Ty n):FnP Tryz.prog 227 [ex (.pointer (some ⟨b,0,none⟩)),exI .i64 ((16-(n+1):Nat):Int)] [Ua b ts en qs] (fun p loc=> ∃(k:Nat) (x:Ex) (r:List TokD),facN (n+1) ts= .ok (x,r)∧p=agg (exV k x)∧loc=[Ua b r en qs]) (fun ch loc=> ∃e,facN (n+1) ts= .error e∧V4 en e ch loc):=by
 have hnm:=Vw b ts en qs
 rw [h0] at hnm
 have htb:=Ww b ts en qs wBonus
 rw [h1] at htb
 rw [if_neg Yb9] at htb
 have htm:=Ww b ts en qs wMalus
 rw [h2] at htm
 rw [if_neg Yb9] at htm
 have hir:=W3 b ts en qs wRound
 rw [h3] at hir
 have hil:=W3 b ts en qs wLeast
 rw [h4] at hil
 have hig:=W3 b ts en qs wGreatest
 rw [h5] at hig
 have hf:facN (n+1) ts=Xa1 (Ty n) 10 ts.tail:=by
   show Vc true _ ts=_
   unfold Vc;rw [if_neg Ycs,if_neg Ycx,if_neg Ydr,if_neg Yea,if_neg Yer,if_pos h5]
   exact Wg (Td h5)
 rw [hf]
 generalize hres:Xa1 (Ty n) 10 ts.tail=res
 unfold Xa1 at hres
 have htl:ts.tail.length≤ts.length:=by rw [List.length_tail];omega
 have k1:=Tw b ts en qs n hn
 have g0:oneP [wLeast,wGreatest] 0 ts= .ok (2,ts.tail):=by rw [oneP,if_neg Yer,oneP,if_pos h5]
 have k2:=Qh b ts en qs [wLeast,wGreatest] Yao
 rw [g0] at k2
 have k3:=Vg b ts.tail en qs sOpen
 refine Wx Tryz.func227 rfl Tryz.ntmps227 rfl fun w0 F0 out=>?_
 (repeat' (first|(apply X4 65;refine Wj (k:=0) (E:=eStr) (t:=64) [wLeast,wGreatest] rfl rfl rfl rfl ?_ (hc:=by decide) (hby:=by decide);refine Wj (k:=0) (E:=eI) (t:=62) [9,10] rfl rfl rfl rfl ?_ (hc:=by decide) (hby:=by decide);refine Wc (.one 0 rfl .nil) Tryz.func185 rfl k2 rfl ?_ ?_)|refine Xe ?_|refine Xb ?_|refine Xc ?_|(apply Xn;exact Yba;exact rfl)|refine Xo ?_|refine Xx rfl ?_|refine Xy rfl ?_|(apply Xh;exact rfl;first|(apply Xi;first|(refine Xk (.one 1 rfl .nil) Tryz.func183 rfl hnm rfl ?_;rintro _ _ ⟨rfl,rfl⟩)|(refine Xk (.one 0 rfl .nil) Tryz.func155 rfl htb rfl ?_;rintro _ _ ⟨rfl,rfl⟩)|(refine Xk (.one 0 rfl .nil) Tryz.func155 rfl htm rfl ?_;rintro _ _ ⟨rfl,rfl⟩)|(refine Xk (.one 0 rfl .nil) Tryz.func184 rfl hir rfl ?_;rintro _ _ ⟨rfl,rfl⟩)|(refine Xk (.one 0 rfl .nil) Tryz.func184 rfl hil rfl ?_;rintro _ _ ⟨rfl,rfl⟩)|(refine Xk (.one 0 rfl .nil) Tryz.func184 rfl hig rfl ?_;rintro _ _ ⟨rfl,rfl⟩)|(refine Xk (.one 0 rfl .nil) Tryz.func228 rfl k1 rfl ?_;rintro _ _ ⟨rfl,rfl⟩))|(apply Wb;refine X8 ?_;intro _)|(apply X5;(refine Wi rfl Yac ?_);intro _))))
 all_goals (try (exfalso;first|contradiction|omega))
 rotate_left
 · rintro ch loc ⟨e,g1,_⟩;cases g1
 rintro _ loc ⟨i,t1,g1,rfl,rfl⟩
 injection g1 with g1;injection g1 with g1 g2;subst g1 g2
 rename_i b4 _ _
 (repeat' (first|(apply X4 71;refine Wc (.one 0 rfl .nil) Tryz.func146 rfl k3 rfl ?_ ?_)|refine Xe ?_|refine Xb ?_|refine Xc ?_|(apply Xn;exact Yey;exact rfl)|(apply Xh;exact rfl;(apply Xt;refine Xj (k:=1) (l0:=[]) rfl rfl rfl ?_))))
 rotate_left
 · rintro ch loc ⟨e,g1,rfl,rfl⟩;((repeat (first|(with_reducible refine Wh ?_)|(with_reducible refine Wl ?_)));refine X2 (loc':=[]) (List.nil_sublist _) ?_);exact ⟨e,hres.symm.trans (X1 g1),rfl,rfl⟩
 rintro _ loc ⟨t1,g1,rfl⟩
 have hl1:=(W7 (Q:=TT) (Ss sOpen)).len g1
 rw [Wg g1] at hres
 have k4:=hx b t1 en qs Yan
 (repeat' (first|(apply Wa 20;refine Stop.out ?_)|refine Xe ?_|refine Xc ?_))
 refine ⟨?_⟩
 refine Xaf (K:=Xau en res) (fun ch env loc ⟨e,h1,h2⟩=>?_) ?_
 · ((repeat (first|(with_reducible refine Wh ?_)|(with_reducible refine Wl ?_)));refine X2 (loc':=[]) (List.nil_sublist _) ?_)
   exact ⟨e,h1,h2,rfl⟩
 refine X7 (env':=[(0,ex (.pointer (some ⟨b,0,none⟩))),(1,exI .i64 ((16-n:Nat):Int)),(4,ex (.pointer (some ⟨b4,0,none⟩)))]) (loc':=[Ua b t1 en qs,row b4 52 5 [exI .i64 10,exT [],exI .i64 0,exI .i64 0,ex (.slice none 0 0)]]) (Xg (by repeat (first|exact Xr|refine Xl rfl ?_)) (List.Sublist.refl _)) ?_
 (refine Vh ([row b4 52 5 [exI .i64 10,exT [],exI .i64 0,exI .i64 0,ex (.slice none 0 0)]]) 8 rfl ?_)
 all_goals ((apply Wz 0 rfl Yaa rfl Vf Xa;(exact Yad);exact rfl))
 all_goals ((apply Ui 1 rfl Yaa rfl Yaa Vf Xa;(exact Ya0);exact rfl))
 all_goals ((apply Wz 2 rfl Yaa rfl Vf Xa;(exact Xf rfl);exact rfl))
 all_goals ((apply Wz 3 rfl Yaa rfl Vf Xa;(exact Xf rfl);exact rfl))
 all_goals ((apply T0 4;exact Yaa;exact rfl;exact Xa;exact (fun _ _ h=>h);(refine Uv (.one 0 rfl .nil) Tryz.func189 rfl k4 Ybd rfl ?_ ?_;rotate_left;(rintro ch loc ⟨e,g2,rfl,rfl⟩;exact ⟨e,hres.symm.trans (X1 g2),rfl⟩);rintro _ loc ⟨kx,x,t2,g2,rfl,rfl⟩;rw [Wg g2] at hres)))
 all_goals ((apply Xu 5;exact Yaa;exact rfl;exact Xa;exact (fun _ _ h=>h);(apply X5;(refine X6 rfl rfl ?_);intro _)))
 all_goals ((apply Xu 6;exact Yaa;exact rfl;exact Xa;exact (fun _ _ h=>h);(apply Ve;((refine R1 (hH:=Yca) rfl Yby rfl ?_));intro _)))
 all_goals ((apply Wz 7 rfl Yaa rfl Vf Xa;(exact Yad);exact rfl))
 all_goals ((apply Xu 8;exact Yaa;exact rfl;exact Xa;exact (fun h=>absurd h Yao);(apply Xt;refine Xfi (H:=Tp []) (k:=0) rfl ?_;intro _ _ hv;subst hv;refine Xj (k:=3) (hH:=Ydb) rfl rfl rfl ?_)))
 all_goals (refine X9 Yaa ?_)
 rename_i b77 oa c
 have hl2:=(Xb8 n).len g2
 have k5:=Vg b t2 en qs sComma
 (repeat' (first|(apply X4 81;refine Wc (.one 2 rfl .nil) Tryz.func146 rfl k5 rfl ?_ ?_)|refine Xe ?_|refine Xb ?_|(apply Xn;(exact Xf rfl);exact rfl)))
 rotate_left
 · rintro ch loc ⟨e,g3,rfl,rfl⟩;((repeat (first|(with_reducible refine Wh ?_)|(with_reducible refine Wl ?_)));refine X2 (loc':=[]) (List.nil_sublist _) ?_);exact ⟨e,hres.symm.trans (X1 g3),rfl,rfl⟩
 rintro _ loc ⟨t3,g3,rfl⟩
 have hl3:=(W7 (Q:=TT) (Ss sComma)).len g3
 rw [Wg g3] at hres
 have k6:=hx b t3 en qs Yan
 (repeat' (first|(apply Wa 22;refine Stop.out ?_)|refine Xe ?_|refine Xc ?_))
 refine ⟨?_⟩
 refine Xaf (K:=Xau en res) (fun ch env loc ⟨e,h1,h2⟩=>?_) ?_
 · ((repeat (first|(with_reducible refine Wh ?_)|(with_reducible refine Wl ?_)));refine X2 (loc':=[]) (List.nil_sublist _) ?_)
   exact ⟨e,h1,h2,rfl⟩
 refine X7 (env':=[(0,ex (.pointer (some ⟨b,0,none⟩))),(1,exI .i64 ((16-n:Nat):Int)),(4,ex (.pointer (some ⟨b4,0,none⟩)))]) (loc':=[Ua b t3 en qs,vec (.slice oa 1 c) 52 5 1 (exV kx x),row b4 52 5 [exI .i64 10,exT [],exI .i64 0,exI .i64 0,ex (.slice oa 1 c)]]) (Xg (by repeat (first|exact Xr|refine Xl rfl ?_)) (by exact .cons_cons _ (.cons_cons _ (.cons _ (.refl _))))) ?_
 (refine Vh ([row b4 52 5 [exI .i64 10,exT [],exI .i64 0,exI .i64 0,ex (.slice oa 1 c)]]) 8 rfl ?_)
 all_goals ((apply Wz 0 rfl Yaa rfl Vf Xa;(exact Yad);exact rfl))
 all_goals ((apply Ui 1 rfl Yaa rfl Yaa Vf Xa;(exact Yev);exact rfl))
 all_goals ((apply Wz 2 rfl Yaa rfl Vf Xa;(exact Xf rfl);exact rfl))
 all_goals ((apply Wz 3 rfl Yaa rfl Vf Xa;(exact Xf rfl);exact rfl))
 all_goals ((apply T0 4;exact Yaa;exact rfl;exact Xa;exact (fun _ _ h=>h);(refine Uv (.one 0 rfl .nil) Tryz.func189 rfl k6 Ye7 rfl ?_ ?_;rotate_left;(rintro ch loc ⟨e,g4,rfl,rfl⟩;exact ⟨e,hres.symm.trans (X1 g4),rfl⟩);rintro _ loc ⟨ky,y,t4,g4,rfl,rfl⟩;rw [Wg g4] at hres)))
 all_goals ((apply Xu 5;exact Yaa;exact rfl;exact Xa;exact (fun _ _ h=>h);(apply X5;(refine X6 rfl rfl ?_);intro _)))
 all_goals ((apply Xu 6;exact Yaa;exact rfl;exact Xa;exact (fun _ _ h=>h);(apply Ve;((refine Vb (k:=2) (hH:=Yca) rfl rfl Yby rfl ?_));intro _)))
 all_goals ((apply Wz 7 rfl Yaa rfl Vf Xa;(exact Yad);exact rfl))
 all_goals ((apply Xu 8;exact Yaa;exact rfl;exact Xa;exact (fun h=>absurd h Yao);(apply Xt;refine Xfi (H:=Tp []) (k:=2) rfl ?_;intro _ _ hv;subst hv;refine Xj (k:=3) (hH:=Ydb) rfl rfl rfl ?_)))
 all_goals (refine X9 Yaa ?_)
 rename_i b87 oa2 c2
 have k7:=Vg b t4 en qs sClose
 (repeat' (first|(apply X4 91;refine Wc (.one 1 rfl .nil) Tryz.func146 rfl k7 rfl ?_ ?_)|refine Xb ?_|(apply Xn;(exact Xf rfl);exact rfl)))
 rotate_left
 · rintro ch loc ⟨e,g5,rfl,rfl⟩;((repeat (first|(with_reducible refine Wh ?_)|(with_reducible refine Wl ?_)));refine X2 (loc':=[]) (List.nil_sublist _) ?_);exact ⟨e,hres.symm.trans (X1 g5),rfl,rfl⟩
 rintro _ loc ⟨t5,g5,rfl⟩
 rw [Wg g5] at hres
 (repeat' (first|(apply W2 34;refine Stop.out ?_)|refine Xc ?_))
 refine ⟨X7 (Leads.trans (Sf (k:=2) (ps:=exV kx x++exV ky y) rfl (Tr (Tx (Nat.le_max_left kx ky) x) (Tx (Nat.le_max_right kx ky) y))) (Vi (j:=2) (k:=2) (i:=4) (E:=eEx (max kx ky)) [x,y] rfl rfl rfl rfl rfl rfl (hby:=by show 2 * 64≤_;decide))) ?_⟩
 (repeat' (first|refine Xe ?_|refine Xb ?_|refine Xc ?_|(apply Xn;(exact Ybk);exact rfl)|refine Xw ?_|(apply Xh;exact rfl;(apply Xt;refine Xj (k:=2) (l0:=[]) rfl rfl rfl ?_))))
 exact ⟨.inr rfl,Vd rfl (.cella (k:=2) rfl rfl rfl rfl inferInstance rfl) Ybd ⟨max kx ky+1,_,_,hres.symm,rfl,rfl⟩⟩
theorem Xej (b:Nat) (ts:List TokD) (en:Nat) (qs:List SP) (hts:ts.length≤70000) (h0:Sx.isName ts=false) (h1:isT wBonus ts=false) (h2:isT wMalus ts=false) (h3:isT wRound ts=false) (h4:isT wLeast ts=false) (h5:isT wGreatest ts=false) (h6:isT wIf ts=false) (h7:isT sOpen ts=true):FnP Tryz.prog 227 [ex (.pointer (some ⟨b,0,none⟩)),exI .i64 16] [Ua b ts en qs] (fun p loc=> ∃(k:Nat) (x:Ex) (r:List TokD),facN 0 ts= .ok (x,r)∧p=agg (exV k x)∧loc=[Ua b r en qs]) (fun ch loc=> ∃e,facN 0 ts= .error e∧V4 en e ch loc):=by
 have hnm:=Vw b ts en qs
 rw [h0] at hnm
 have htb:=Ww b ts en qs wBonus
 rw [h1] at htb
 rw [if_neg Yb9] at htb
 have htm:=Ww b ts en qs wMalus
 rw [h2] at htm
 rw [if_neg Yb9] at htm
 have hir:=W3 b ts en qs wRound
 rw [h3] at hir
 have hil:=W3 b ts en qs wLeast
 rw [h4] at hil
 have hig:=W3 b ts en qs wGreatest
 rw [h5] at hig
 have hii:=W3 b ts en qs wIf
 rw [h6] at hii
 have hio:=W3 b ts en qs sOpen
 rw [h7] at hio
 have hf:facN 0 ts= .error ts:=by
   show Vc false _ ts=_
   unfold Vc;rw [if_neg Ycs,if_neg Ycx,if_neg Ydr,if_neg Yea,if_neg Yer,if_neg (by rw [h5];simp),if_neg (by rw [h6];simp),if_pos h7];rfl
 have k1:=Sa b ts en qs
 refine Wx Tryz.func227 rfl Tryz.ntmps227 rfl fun w0 F0 out=>?_
 (repeat' (first|(apply X4 11;refine Wc (.one 0 rfl .nil) Tryz.func228 rfl k1 rfl ?_ ?_)|refine Xe ?_|refine Xb ?_|refine Xc ?_|(apply Xn;exact Yba;exact rfl)|refine Xo ?_|refine Xx rfl ?_|refine Xy rfl ?_|(apply Xh;exact rfl;first|(apply Xi;first|(refine Xk (.one 1 rfl .nil) Tryz.func183 rfl hnm rfl ?_;rintro _ _ ⟨rfl,rfl⟩)|(refine Xk (.one 0 rfl .nil) Tryz.func155 rfl htb rfl ?_;rintro _ _ ⟨rfl,rfl⟩)|(refine Xk (.one 0 rfl .nil) Tryz.func155 rfl htm rfl ?_;rintro _ _ ⟨rfl,rfl⟩)|(refine Xk (.one 0 rfl .nil) Tryz.func184 rfl hir rfl ?_;rintro _ _ ⟨rfl,rfl⟩)|(refine Xk (.one 0 rfl .nil) Tryz.func184 rfl hil rfl ?_;rintro _ _ ⟨rfl,rfl⟩)|(refine Xk (.one 0 rfl .nil) Tryz.func184 rfl hig rfl ?_;rintro _ _ ⟨rfl,rfl⟩)|(refine Xk (.one 0 rfl .nil) Tryz.func184 rfl hii rfl ?_;rintro _ _ ⟨rfl,rfl⟩)|(refine Xk (.one 0 rfl .nil) Tryz.func184 rfl hio rfl ?_;rintro _ _ ⟨rfl,rfl⟩))|(apply Wb;refine X8 ?_;intro _))))
 all_goals (try (exfalso;first|contradiction|omega))
 · rintro _ _ h;exact h.elim
 · rintro ch loc ⟨rfl,rfl⟩;((repeat (first|(with_reducible refine Wh ?_)|(with_reducible refine Wl ?_)));refine X2 (loc':=[]) (List.nil_sublist _) ?_);exact ⟨ts,hf,rfl,rfl⟩
theorem Xek (n:Nat) (hn:n+1≤16) (b:Nat) (ts:List TokD) (en:Nat) (qs:List SP) (hts:ts.length≤70000) (h0:Sx.isName ts=false) (h1:isT wBonus ts=false) (h2:isT wMalus ts=false) (h3:isT wRound ts=false) (h4:isT wLeast ts=false) (h5:isT wGreatest ts=false) (h6:isT wIf ts=false) (h7:isT sOpen ts=true) (hx:Xbh 189 Ty n):FnP Tryz.prog 227 [ex (.pointer (some ⟨b,0,none⟩)),exI .i64 ((16-(n+1):Nat):Int)] [Ua b ts en qs] (fun p loc=> ∃(k:Nat) (x:Ex) (r:List TokD),facN (n+1) ts= .ok (x,r)∧p=agg (exV k x)∧loc=[Ua b r en qs]) (fun ch loc=> ∃e,facN (n+1) ts= .error e∧V4 en e ch loc):=by
 have hnm:=Vw b ts en qs
 rw [h0] at hnm
 have htb:=Ww b ts en qs wBonus
 rw [h1] at htb
 rw [if_neg Yb9] at htb
 have htm:=Ww b ts en qs wMalus
 rw [h2] at htm
 rw [if_neg Yb9] at htm
 have hir:=W3 b ts en qs wRound
 rw [h3] at hir
 have hil:=W3 b ts en qs wLeast
 rw [h4] at hil
 have hig:=W3 b ts en qs wGreatest
 rw [h5] at hig
 have hii:=W3 b ts en qs wIf
 rw [h6] at hii
 have hio:=W3 b ts en qs sOpen
 rw [h7] at hio
 have hf:facN (n+1) ts=bnd (want sOpen) (fun _=>bnd (Ty n) fun x=>bnd (want sClose) fun _=>ret x) ts:=by
   show Vc true _ ts=_
   unfold Vc;rw [if_neg Ycs,if_neg Ycx,if_neg Ydr,if_neg Yea,if_neg Yer,if_neg (by rw [h5];simp),if_neg (by rw [h6];simp),if_pos h7];rfl
 rw [hf]
 generalize hres:bnd (want sOpen) (fun _=>bnd (Ty n) fun x=>bnd (want sClose) fun _=>ret x) ts=res
 have k1:=Tw b ts en qs n hn
 have k2:=Vg b ts en qs sOpen
 refine Wx Tryz.func227 rfl Tryz.ntmps227 rfl fun w0 F0 out=>?_
 (repeat' (first|(apply X4 13;refine Wc (.one 0 rfl .nil) Tryz.func146 rfl k2 rfl ?_ ?_)|refine Xe ?_|refine Xb ?_|refine Xc ?_|(apply Xn;exact Yba;exact rfl)|refine Xo ?_|refine Xx rfl ?_|refine Xy rfl ?_|(apply Xh;exact rfl;first|(apply Xi;first|(refine Xk (.one 1 rfl .nil) Tryz.func183 rfl hnm rfl ?_;rintro _ _ ⟨rfl,rfl⟩)|(refine Xk (.one 0 rfl .nil) Tryz.func155 rfl htb rfl ?_;rintro _ _ ⟨rfl,rfl⟩)|(refine Xk (.one 0 rfl .nil) Tryz.func155 rfl htm rfl ?_;rintro _ _ ⟨rfl,rfl⟩)|(refine Xk (.one 0 rfl .nil) Tryz.func184 rfl hir rfl ?_;rintro _ _ ⟨rfl,rfl⟩)|(refine Xk (.one 0 rfl .nil) Tryz.func184 rfl hil rfl ?_;rintro _ _ ⟨rfl,rfl⟩)|(refine Xk (.one 0 rfl .nil) Tryz.func184 rfl hig rfl ?_;rintro _ _ ⟨rfl,rfl⟩)|(refine Xk (.one 0 rfl .nil) Tryz.func184 rfl hii rfl ?_;rintro _ _ ⟨rfl,rfl⟩)|(refine Xk (.one 0 rfl .nil) Tryz.func184 rfl hio rfl ?_;rintro _ _ ⟨rfl,rfl⟩)|(refine Xk (.one 0 rfl .nil) Tryz.func228 rfl k1 rfl ?_;rintro _ _ ⟨rfl,rfl⟩))|(apply Wb;refine X8 ?_;intro _))))
 all_goals (try (exfalso;first|contradiction|omega))
 rotate_left
 · rintro ch loc ⟨e,g1,rfl,rfl⟩;((repeat (first|(with_reducible refine Wh ?_)|(with_reducible refine Wl ?_)));refine X2 (loc':=[]) (List.nil_sublist _) ?_);exact ⟨e,hres.symm.trans (X1 g1),rfl,rfl⟩
 rintro pw loc ⟨t1,g1,rfl⟩
 rename_i b4
 have hl1:=(W7 (Q:=TT) (Ss sOpen)).len g1
 rw [Wg g1] at hres
 have k4:=hx b t1 en qs Yan
 (repeat' (first|(apply X4 16;refine Wc (.one 0 rfl .nil) Tryz.func189 rfl k4 rfl ?_ ?_)|refine Xe ?_|refine Xb ?_|refine Xc ?_|(apply Xn;(exact Xf rfl);exact rfl)))
 rotate_left
 · rintro ch loc ⟨e,g2,rfl,rfl⟩;((repeat (first|(with_reducible refine Wh ?_)|(with_reducible refine Wl ?_)));refine X2 (loc':=[]) (List.nil_sublist _) ?_);exact ⟨e,hres.symm.trans (X1 g2),rfl,rfl⟩
 rintro _ loc ⟨kx,x,t2,g2,rfl,rfl⟩
 rw [Wg g2] at hres
 have k5:=Vg b t2 en qs sClose
 (repeat' (first|(apply X4 18;refine Wc (.one 0 rfl .nil) Tryz.func146 rfl k5 rfl ?_ ?_)|refine Xb ?_|refine Xc ?_|(apply Xn;(exact Xf rfl);exact rfl)|(apply Xh;exact rfl;(apply Xt;refine Xj (k:=1) (l0:=[]) rfl rfl rfl ?_))))
 rotate_left
 · rintro ch loc ⟨e,g3,rfl,rfl⟩;((repeat (first|(with_reducible refine Wh ?_)|(with_reducible refine Wl ?_)));refine X2 (loc':=[]) (List.nil_sublist _) ?_);exact ⟨e,hres.symm.trans (X1 g3),rfl,rfl⟩
 rintro _ loc ⟨t3,g3,rfl⟩
 rw [Wg g3] at hres
 (repeat' (first|(apply W2 34;refine Stop.out ?_)|refine Xc ?_))
 refine ⟨X7 (env':=[(0,ex (.pointer (some ⟨b,0,none⟩))),(4,ex (.pointer (some ⟨b4,0,none⟩)))]) (loc':=[Ua b t3 en qs,row b4 52 5 (exV kx x)]) (Xg (by repeat (first|exact Xr|refine Xl rfl ?_)) (List.Sublist.refl _)) ?_⟩
 (repeat' (first|refine Xe ?_|refine Xb ?_|refine Xc ?_|(apply Xn;(exact Ya1);exact rfl)|refine Xw ?_|(apply Xh;exact rfl;(apply Xt;refine Xj (k:=1) (l0:=[]) rfl rfl rfl ?_))))
 exact ⟨.inr rfl,Vd rfl (.cella (k:=1) rfl rfl rfl rfl inferInstance rfl) Ybd ⟨kx,_,_,hres.symm,rfl,rfl⟩⟩
theorem Xjj (n:Nat) (hn:n≤16) (b:Nat) (ts:List TokD) (en:Nat) (qs:List SP) (hts:ts.length≤70000) (h0:Sx.isName ts=false) (h1:isT wBonus ts=false) (h2:isT wMalus ts=false) (h3:isT wRound ts=false) (h4:isT wLeast ts=false) (h5:isT wGreatest ts=false) (h6:isT wIf ts=false) (h7:isT sOpen ts=false):FnP Tryz.prog 227 [ex (.pointer (some ⟨b,0,none⟩)),exI .i64 ((16-n:Nat):Int)] [Ua b ts en qs] (fun p loc=> ∃(k:Nat) (x:Ex) (r:List TokD),facN n ts= .ok (x,r)∧p=agg (exV k x)∧loc=[Ua b r en qs]) (fun ch loc=> ∃e,facN n ts= .error e∧V4 en e ch loc):=by
 have hnm:=Vw b ts en qs
 rw [h0] at hnm
 have htb:=Ww b ts en qs wBonus
 rw [h1] at htb
 rw [if_neg Yb9] at htb
 have htm:=Ww b ts en qs wMalus
 rw [h2] at htm
 rw [if_neg Yb9] at htm
 have hir:=W3 b ts en qs wRound
 rw [h3] at hir
 have hil:=W3 b ts en qs wLeast
 rw [h4] at hil
 have hig:=W3 b ts en qs wGreatest
 rw [h5] at hig
 have hii:=W3 b ts en qs wIf
 rw [h6] at hii
 have hio:=W3 b ts en qs sOpen
 rw [h7] at hio
 have hf:facN n ts= .error ts:=by
   cases n
   · show Vc false _ ts=_
     unfold Vc;rw [if_neg Ycs,if_neg Ycx,if_neg Ydr,if_neg Yea,if_neg Yer,if_neg (by rw [h5];simp),if_neg (by rw [h6];simp),if_neg (by rw [h7];simp)]
   · show Vc true _ ts=_
     unfold Vc;rw [if_neg Ycs,if_neg Ycx,if_neg Ydr,if_neg Yea,if_neg Yer,if_neg (by rw [h5];simp),if_neg (by rw [h6];simp),if_neg (by rw [h7];simp)]
 have k2:=Vg b ts en qs sOpen
 refine Wx Tryz.func227 rfl Tryz.ntmps227 rfl fun w0 F0 out=>?_
 (repeat' (first|(apply X4 13;refine Wc (.one 0 rfl .nil) Tryz.func146 rfl k2 rfl ?_ ?_)|refine Xe ?_|refine Xb ?_|refine Xc ?_|(apply Xn;exact Yba;exact rfl)|refine Xo ?_|refine Xs ?_|refine Xy rfl ?_|(apply Xh;exact rfl;first|(apply Xi;first|(refine Xk (.one 1 rfl .nil) Tryz.func183 rfl hnm rfl ?_;rintro _ _ ⟨rfl,rfl⟩)|(refine Xk (.one 0 rfl .nil) Tryz.func155 rfl htb rfl ?_;rintro _ _ ⟨rfl,rfl⟩)|(refine Xk (.one 0 rfl .nil) Tryz.func155 rfl htm rfl ?_;rintro _ _ ⟨rfl,rfl⟩)|(refine Xk (.one 0 rfl .nil) Tryz.func184 rfl hir rfl ?_;rintro _ _ ⟨rfl,rfl⟩)|(refine Xk (.one 0 rfl .nil) Tryz.func184 rfl hil rfl ?_;rintro _ _ ⟨rfl,rfl⟩)|(refine Xk (.one 0 rfl .nil) Tryz.func184 rfl hig rfl ?_;rintro _ _ ⟨rfl,rfl⟩)|(refine Xk (.one 0 rfl .nil) Tryz.func184 rfl hii rfl ?_;rintro _ _ ⟨rfl,rfl⟩)|(refine Xk (.one 0 rfl .nil) Tryz.func184 rfl hio rfl ?_;rintro _ _ ⟨rfl,rfl⟩))|(apply Wb;refine X8 ?_;intro _))))
 all_goals (try (exfalso;first|contradiction|omega))
 rotate_left
 · rintro ch loc ⟨e,g1,rfl,rfl⟩;((repeat (first|(with_reducible refine Wh ?_)|(with_reducible refine Wl ?_)));refine X2 (loc':=[]) (List.nil_sublist _) ?_)
   rw [want_no h7] at g1;injection g1 with g1;subst g1
   exact ⟨_,hf,rfl,rfl⟩
 rintro _ loc ⟨t1,g1,rfl⟩
 rw [want_no h7] at g1;cases g1
end Go.Proofs.YthdldeenpgeemaaGreatDoor
namespace Go.Sx
open Go.Lx Go.Fr
def ifF (ex:List TokD→Res Ex):List (List UInt8)→List Ex→List TokD→Res Ex
 | [],acc=>bnd (want wEnd) fun _=>ret (.mk 11 [] 0 0 acc)
 | w::ws,acc=>bnd (want w) fun _=>bnd ex fun y=>ifF ex ws (acc++[y])
abbrev ifW:List (List UInt8):=[wIf,wUpto,wThen,wElse]
end Go.Sx
namespace Go.Proofs.YthdldeenpgeemaaGreatDoor
open Go Go.RowKit Go.Kx Go.Fr Go.Lx Go.Sx
theorem Xjk (b:Nat) (ts:List TokD) (en:Nat) (qs:List SP) (hts:ts.length≤70000) (h0:Sx.isName ts=false) (h1:isT wBonus ts=false) (h2:isT wMalus ts=false) (h3:isT wRound ts=false) (h4:isT wLeast ts=false) (h5:isT wGreatest ts=false) (h6:isT wIf ts=true):FnP Tryz.prog 227 [ex (.pointer (some ⟨b,0,none⟩)),exI .i64 16] [Ua b ts en qs] (fun p loc=> ∃(k:Nat) (x:Ex) (r:List TokD),facN 0 ts= .ok (x,r)∧p=agg (exV k x)∧loc=[Ua b r en qs]) (fun ch loc=> ∃e,facN 0 ts= .error e∧V4 en e ch loc):=by
 have hnm:=Vw b ts en qs
 rw [h0] at hnm
 have htb:=Ww b ts en qs wBonus
 rw [h1] at htb
 rw [if_neg Yb9] at htb
 have htm:=Ww b ts en qs wMalus
 rw [h2] at htm
 rw [if_neg Yb9] at htm
 have hir:=W3 b ts en qs wRound
 rw [h3] at hir
 have hil:=W3 b ts en qs wLeast
 rw [h4] at hil
 have hig:=W3 b ts en qs wGreatest
 rw [h5] at hig
 have hii:=W3 b ts en qs wIf
 rw [h6] at hii
 have hf:facN 0 ts= .error ts:=by
   show Vc false _ ts=_
   unfold Vc;rw [if_neg Ycs,if_neg Ycx,if_neg Ydr,if_neg Yea,if_neg Yer,if_neg (by rw [h5];simp),if_pos h6];rfl
 have k1:=Sa b ts en qs
 refine Wx Tryz.func227 rfl Tryz.ntmps227 rfl fun w0 F0 out=>?_
 (repeat' (first|(apply X4 97;refine Wc (.one 0 rfl .nil) Tryz.func228 rfl k1 rfl ?_ ?_)|refine Xe ?_|refine Xb ?_|refine Xc ?_|(apply Xn;exact Yba;exact rfl)|refine Xo ?_|refine Xx rfl ?_|refine Xy rfl ?_|(apply Xh;exact rfl;first|(apply Xi;first|(refine Xk (.one 1 rfl .nil) Tryz.func183 rfl hnm rfl ?_;rintro _ _ ⟨rfl,rfl⟩)|(refine Xk (.one 0 rfl .nil) Tryz.func155 rfl htb rfl ?_;rintro _ _ ⟨rfl,rfl⟩)|(refine Xk (.one 0 rfl .nil) Tryz.func155 rfl htm rfl ?_;rintro _ _ ⟨rfl,rfl⟩)|(refine Xk (.one 0 rfl .nil) Tryz.func184 rfl hir rfl ?_;rintro _ _ ⟨rfl,rfl⟩)|(refine Xk (.one 0 rfl .nil) Tryz.func184 rfl hil rfl ?_;rintro _ _ ⟨rfl,rfl⟩)|(refine Xk (.one 0 rfl .nil) Tryz.func184 rfl hig rfl ?_;rintro _ _ ⟨rfl,rfl⟩)|(refine Xk (.one 0 rfl .nil) Tryz.func184 rfl hii rfl ?_;rintro _ _ ⟨rfl,rfl⟩))|(apply Wb;refine X8 ?_;intro _))))
 all_goals (try (exfalso;first|contradiction|omega))
 · rintro _ _ h;exact h.elim
 · rintro ch loc ⟨rfl,rfl⟩;((repeat (first|(with_reducible refine Wh ?_)|(with_reducible refine Wl ?_)));refine X2 (loc':=[]) (List.nil_sublist _) ?_);exact ⟨ts,hf,rfl,rfl⟩
theorem Xjl (n:Nat) (hn:n+1≤16) (b:Nat) (ts:List TokD) (en:Nat) (qs:List SP) (hts:ts.length≤70000) (h0:Sx.isName ts=false) (h1:isT wBonus ts=false) (h2:isT wMalus ts=false) (h3:isT wRound ts=false) (h4:isT wLeast ts=false) (h5:isT wGreatest ts=false) (h6:isT wIf ts=true) (hx:Xbh 189 Ty n):FnP Tryz.prog 227 [ex (.pointer (some ⟨b,0,none⟩)),exI .i64 ((16-(n+1):Nat):Int)] [Ua b ts en qs] (fun p loc=> ∃(k:Nat) (x:Ex) (r:List TokD),facN (n+1) ts= .ok (x,r)∧p=agg (exV k x)∧loc=[Ua b r en qs]) (fun ch loc=> ∃e,facN (n+1) ts= .error e∧V4 en e ch loc):=by
 have hnm:=Vw b ts en qs
 rw [h0] at hnm
 have htb:=Ww b ts en qs wBonus
 rw [h1] at htb
 rw [if_neg Yb9] at htb
 have htm:=Ww b ts en qs wMalus
 rw [h2] at htm
 rw [if_neg Yb9] at htm
 have hir:=W3 b ts en qs wRound
 rw [h3] at hir
 have hil:=W3 b ts en qs wLeast
 rw [h4] at hil
 have hig:=W3 b ts en qs wGreatest
 rw [h5] at hig
 have hii:=W3 b ts en qs wIf
 rw [h6] at hii
 have hf:facN (n+1) ts=ifF (Ty n) ifW [] ts:=by
   show Vc true _ ts=_
   unfold Vc;rw [if_neg Ycs,if_neg Ycx,if_neg Ydr,if_neg Yea,if_neg Yer,if_neg (by rw [h5];simp),if_pos h6];rfl
 rw [hf]
 generalize hres:ifF (Ty n) ifW [] ts=res
 have k1:=Tw b ts en qs n hn
 refine Wx Tryz.func227 rfl Tryz.ntmps227 rfl fun w0 F0 out=>?_
 (repeat' (first|(apply X4 100;refine Wj (k:=0) (E:=eStr) (t:=99) ifW rfl rfl rfl rfl ?_ (hc:=by decide) (hby:=by decide))|refine Xe ?_|refine Xb ?_|refine Xc ?_|(apply Xn;(first|exact Xf rfl|exact Xm rfl|exact Yad|exact Yaj);exact rfl)|refine Xo ?_|refine Xx rfl ?_|refine Xy rfl ?_|(apply Xh;exact rfl;first|(apply Xi;first|(refine Xk (.one 1 rfl .nil) Tryz.func183 rfl hnm rfl ?_;rintro _ _ ⟨rfl,rfl⟩)|(refine Xk (.one 0 rfl .nil) Tryz.func155 rfl htb rfl ?_;rintro _ _ ⟨rfl,rfl⟩)|(refine Xk (.one 0 rfl .nil) Tryz.func155 rfl htm rfl ?_;rintro _ _ ⟨rfl,rfl⟩)|(refine Xk (.one 0 rfl .nil) Tryz.func184 rfl hir rfl ?_;rintro _ _ ⟨rfl,rfl⟩)|(refine Xk (.one 0 rfl .nil) Tryz.func184 rfl hil rfl ?_;rintro _ _ ⟨rfl,rfl⟩)|(refine Xk (.one 0 rfl .nil) Tryz.func184 rfl hig rfl ?_;rintro _ _ ⟨rfl,rfl⟩)|(refine Xk (.one 0 rfl .nil) Tryz.func184 rfl hii rfl ?_;rintro _ _ ⟨rfl,rfl⟩)|(refine Xk (.one 0 rfl .nil) Tryz.func228 rfl k1 rfl ?_;rintro _ _ ⟨rfl,rfl⟩))|(apply Wb;refine X8 ?_;intro _)|(apply Xt;refine Xj (k:=1) (l0:=[]) rfl rfl rfl ?_)|(apply X5;(refine Wi rfl Yac ?_);intro _))))
 all_goals (try (exfalso;first|contradiction|omega))
 rename_i b4 _
 have hl4:ifW.length=4:=rfl
 refine Ws (fun x:List Ex×Nat×(Option Addr×Nat)×List TokD=>([(0,ex (.pointer (some ⟨b,0,none⟩))),(1,exI .i64 ((16-n:Nat):Int)),(4,ex (.pointer (some ⟨b4,0,none⟩))),(99,isl eStr ifW),(100,exI .i64 (ifW.length:Int)),(101,exI .i64 (x.1.length:Int))],[Ua b x.2.2.2 en qs,vec (.slice x.2.2.1.1 x.1.length x.2.2.1.2) 52 5 x.1.length (x.1.flatMap (exV x.2.1)),row b4 52 5 [exI .i64 11,exT [],exI .i64 0,exI .i64 0,ex (.slice x.2.2.1.1 x.1.length x.2.2.1.2)]])) (fun x=>x.1.length≤4∧ifF (Ty n) (ifW.drop x.1.length) x.1 x.2.2.2=res∧x.2.2.2.length≤ts.length) (fun x=>4-x.1.length) ([],0,(none,0),ts) ?_ ⟨Nat.zero_le _,hres,Nat.le_refl _⟩ fun x hx=>?_
 · refine Uq 52 5 ?_
   refine Leads.trans (Uo (.swap _ _ _)) ?_
   exact Xg (by repeat (first|exact Xr|refine Xl rfl ?_)) (List.Sublist.refl _)
 obtain ⟨acc,K,⟨oa,c⟩,t⟩:=x
 obtain ⟨hlen,hinv,hle⟩:=hx
 simp only at hlen hinv hle ⊢
 clear hres
 have hres:=hinv
 clear hinv
 by_cases hlt:acc.length<ifW.length
 · rw [List.drop_eq_getElem_cons hlt,ifF] at hres
   have k2:=Vg b t en qs ifW[acc.length]
   (repeat' (first|(apply X4 107;refine Wc (.one 0 rfl .nil) Tryz.func146 rfl k2 rfl ?_ ?_)|refine Xe ?_|refine Xb ?_|refine Xc ?_|(apply Xn;(first|exact Xf rfl|exact Xm rfl|exact Yag|exact Yam|exact Yah);exact rfl)|refine Xo ?_|refine Xs ?_|(refine Xp rfl (fun hb=>?_) (fun hb=>?_)<;>(repeat (first|replace hb:=Xz hb|replace hb:=X0 hb))<;>(try (exfalso;omega)))))
   all_goals (try (exfalso;first|contradiction|omega))
   rotate_left
   · rintro ch loc ⟨e,g1,rfl,rfl⟩;((repeat (first|(with_reducible refine Wh ?_)|(with_reducible refine Wl ?_)));refine X2 (loc':=[]) (List.nil_sublist _) ?_);exact ⟨e,hres.symm.trans (X1 g1),rfl,rfl⟩
   rintro _ loc ⟨t1,g1,rfl⟩
   have hl1:=(W7 (Q:=TT) (Ss ifW[acc.length])).len g1
   rw [Wg g1] at hres
   have k4:=hx b t1 en qs Yan
   (repeat' (first|(apply Wa 31;refine Stop.out ?_)|refine Xc ?_))
   refine ⟨?_⟩
   refine Xaf (K:=Xau en res) (fun ch env loc ⟨e,h1,h2⟩=>?_) ?_
   · ((repeat (first|(with_reducible refine Wh ?_)|(with_reducible refine Wl ?_)));refine X2 (loc':=[]) (List.nil_sublist _) ?_)
     exact ⟨e,h1,h2,rfl⟩
   refine X7 (env':=[(0,ex (.pointer (some ⟨b,0,none⟩))),(1,exI .i64 ((16-n:Nat):Int)),(4,ex (.pointer (some ⟨b4,0,none⟩))),(99,isl eStr ifW),(100,exI .i64 (ifW.length:Int)),(101,exI .i64 (acc.length:Int))]) (loc':=[Ua b t1 en qs,vec (.slice oa acc.length c) 52 5 acc.length (acc.flatMap (exV K)),row b4 52 5 [exI .i64 11,exT [],exI .i64 0,exI .i64 0,ex (.slice oa acc.length c)]]) (Xg (by repeat (first|exact Xr|refine Xl rfl ?_)) (List.Sublist.refl _)) ?_
   (refine Vh ([row b4 52 5 [exI .i64 11,exT [],exI .i64 0,exI .i64 0,ex (.slice oa acc.length c)]]) 8 rfl ?_)
   all_goals ((apply Wz 0 rfl Yaa rfl Vf Xa;(exact Yad);exact rfl))
   all_goals ((apply Ui 1 rfl Yaa rfl Yaa Vf Xa;(exact Yev);exact rfl))
   all_goals ((apply Wz 2 rfl Yaa rfl Vf Xa;(exact Xf rfl);exact rfl))
   all_goals ((apply Wz 3 rfl Yaa rfl Vf Xa;(exact Xf rfl);exact rfl))
   all_goals ((apply T0 4;exact Yaa;exact rfl;exact Xa;exact (fun _ _ h=>h);(refine Uv (.one 0 rfl .nil) Tryz.func189 rfl k4 Ye7 rfl ?_ ?_;rotate_left;(rintro ch loc ⟨e,g4,rfl,rfl⟩;exact ⟨e,hres.symm.trans (X1 g4),rfl⟩);rintro _ loc ⟨ky,y,t4,g4,rfl,rfl⟩;rw [Wg g4] at hres)))
   all_goals ((apply Xu 5;exact Yaa;exact rfl;exact Xa;exact (fun _ _ h=>h);(apply X5;(refine X6 rfl rfl ?_);intro _)))
   all_goals ((apply Xu 6;exact Yaa;exact rfl;exact Xa;exact (fun _ _ h=>h);(apply Ve;((refine Vb (k:=2) (hH:=Yca) rfl rfl Yby rfl ?_));intro _)))
   all_goals ((apply Wz 7 rfl Yaa rfl Vf Xa;(exact Yad);exact rfl))
   all_goals ((apply Xu 8;exact Yaa;exact rfl;exact Xa;exact (fun h=>absurd h Yao);(apply Xt;refine Xfi (H:=Tp []) (k:=2) rfl ?_;intro _ _ hv;subst hv;refine Xj (k:=3) (hH:=Ydb) rfl rfl rfl ?_)))
   all_goals (refine X9 Yaa ?_)
   rename_i b113 oa2 c2
   have hl2:=(Xb8 n).len g4
   (repeat' (first|refine Xb ?_|refine Xc ?_|(apply Xn;exact Ych;exact rfl)))
   refine ⟨(acc++[y],max K ky,(oa2,c2),t4),⟨by simp only [List.length_append,List.length_cons,List.length_nil];omega,by rw [List.length_append];exact hres,by show t4.length≤_;omega⟩,by show 4-(acc++[y]).length<4-acc.length;simp only [List.length_append,List.length_cons,List.length_nil];omega,?_⟩
   refine Leads.trans (Sf (k:=2) (ps:=acc.flatMap (exV K)++exV ky y) rfl (Tr (Xh5 (Nat.le_max_left K ky) acc) (Tx (Nat.le_max_right K ky) y))) ?_
   simp only [List.length_append,List.flatMap_append,List.length_cons,List.length_nil,List.flatMap_cons,List.flatMap_nil,List.append_nil]
   exact Xg (by repeat (first|exact Xr|refine Xl rfl ?_)) (by exact .cons _ (.refl _))
 · rw [show acc.length=4 by omega] at hres
   have hacc4:acc.length=4:=by omega
   have hres:bnd (want wEnd) (fun _=>ret (Ex.mk 11 [] 0 0 acc)) t=res:=hres
   have k2:=Vg b t en qs wEnd
   (repeat' (first|(apply X4 118;refine Wc (.one 0 rfl .nil) Tryz.func146 rfl k2 rfl ?_ ?_)|refine Xe ?_|refine Xb ?_|refine Xc ?_|(apply Xn;(first|exact Xf rfl|exact Yam);exact rfl)|refine Wm ?_|(refine Xp rfl (fun hb=>?_) (fun hb=>?_)<;>(repeat (first|replace hb:=Xz hb|replace hb:=X0 hb))<;>(try (exfalso;omega)))))
   all_goals (try (exfalso;first|contradiction|omega))
   rotate_left
   · rintro ch loc ⟨e,g1,rfl,rfl⟩;((repeat (first|(with_reducible refine Wh ?_)|(with_reducible refine Wl ?_)));refine X2 (loc':=[]) (List.nil_sublist _) ?_);exact ⟨e,hres.symm.trans (X1 g1),rfl,rfl⟩
   rintro _ loc ⟨t1,g1,rfl⟩
   rw [Wg g1] at hres
   (repeat' (first|(apply W2 34;refine Stop.out ?_)|refine Xc ?_))
   refine ⟨X7 (Vi (j:=1) (k:=1) (i:=4) (E:=eEx K) acc rfl rfl rfl rfl rfl rfl (hby:=by show acc.length * 64≤_;omega)) ?_⟩
   (repeat' (first|refine Xe ?_|refine Xb ?_|refine Xc ?_|(apply Xn;(exact Ya1);exact rfl)|refine Xw ?_|(apply Xh;exact rfl;(apply Xt;refine Xj (k:=1) (l0:=[]) rfl rfl rfl ?_))))
   exact ⟨.inr rfl,Vd rfl (.cella (k:=1) rfl rfl rfl rfl inferInstance rfl) Ybd ⟨K+1,_,_,hres.symm,rfl,rfl⟩⟩
theorem Xbr (n:Nat) (hn:n≤16) (hx: ∀m,n=m+1→Xbh 189 Ty m):Xbh 227 facN n:=by
 intro b ts en qs hts
 cases h0:Sx.isName ts with
 | true=>exact Xg8 n hn b ts en qs hts h0
 | false=>
 cases h1:isT wBonus ts with
 | true=>exact Xfo n hn b ts en qs hts h0 h1
 | false=>
 cases h2:isT wMalus ts with
 | true=>exact Xfp n hn b ts en qs hts h0 h1 h2
 | false=>
 cases h3:isT wRound ts with
 | true=>exact Xfq n hn b ts en qs hts h0 h1 h2 h3
 | false=>
 cases h4:isT wLeast ts with
 | true=>
   cases n with
   | zero=>exact Xeh b ts en qs hts h0 h1 h2 h3 h4
   | succ m=>exact Xei m hn b ts en qs hts h0 h1 h2 h3 h4 (hx m rfl)
 | false=>
 cases h5:isT wGreatest ts with
 | true=>
   cases n with
   | zero=>exact Xb0 b ts en qs hts h0 h1 h2 h3 h4 h5
   | succ m=>exact Xb1 m hn b ts en qs hts h0 h1 h2 h3 h4 h5 (hx m rfl)
 | false=>
 cases h6:isT wIf ts with
 | true=>
   cases n with
   | zero=>exact Xjk b ts en qs hts h0 h1 h2 h3 h4 h5 h6
   | succ m=>exact Xjl m hn b ts en qs hts h0 h1 h2 h3 h4 h5 h6 (hx m rfl)
 | false=>
 cases h7:isT sOpen ts with
 | true=>
   cases n with
   | zero=>exact Xej b ts en qs hts h0 h1 h2 h3 h4 h5 h6 h7
   | succ m=>exact Xek m hn b ts en qs hts h0 h1 h2 h3 h4 h5 h6 h7 (hx m rfl)
 | false=>exact Xjj n hn b ts en qs hts h0 h1 h2 h3 h4 h5 h6 h7
theorem Xdm (n:Nat) (hn:n≤16) (hf:Xbh 227 facN n) (htm: ∀m,n=m+1→Xbh 212 termN m):Xbh 212 termN n:=by
 intro b ts en qs hts
 have hin:=Rg b ts en qs
 refine Wx Tryz.func212 rfl Tryz.ntmps212 rfl fun w0 F0 out=>?_
 generalize hres:termN n ts=res
 cases hN:isNum ts
 · rw [hN] at hin
   have k1:=hf b ts en qs hts
   have hq:termN n ts=facN n ts:=by cases n<;>exact if_neg (by rw [hN];simp)
   rw [hq] at hres
   (repeat' (first|(apply X4 11;refine Wc (.one 0 rfl .nil) Tryz.func227 rfl k1 rfl ?_ ?_)|refine Xe ?_|refine Xb ?_|refine Xc ?_|(apply Xn;exact Yeo;exact rfl)|refine Xx rfl ?_|(apply Xh;exact rfl;first|(apply Xi;(refine Xk (.one 1 rfl .nil) Tryz.func190 rfl hin rfl ?_;rintro _ _ ⟨rfl,rfl⟩))|(apply Wb;refine X8 ?_;intro _))))
   all_goals (try (exfalso;first|contradiction|omega))
   rotate_left
   · rintro ch loc ⟨e,g1,rfl,rfl⟩;((repeat (first|(with_reducible refine Wh ?_)|(with_reducible refine Wl ?_)));refine X2 (loc':=[]) (List.nil_sublist _) ?_);exact ⟨e,hres.symm.trans g1,rfl,rfl⟩
   rintro _ loc ⟨kx,x,t1,g1,rfl,rfl⟩
   (repeat' (first|refine Xc ?_|refine Xw ?_|(apply Xh;exact rfl;(apply Xt;refine Xj (k:=1) (l0:=[]) rfl rfl rfl ?_))))
   exact ⟨.inr rfl,Vd rfl (.cella (k:=1) rfl rfl rfl rfl inferInstance rfl) Ybd ⟨kx,_,_,hres.symm.trans g1,rfl,rfl⟩⟩
 rw [hN] at hin
 have hq0:termN n ts=bnd fracP (fun q ts=>if isT sStar ts then gate (decide (0<n)) (bnd (want sStar) fun _=>bnd (match n with|0=>fun ts=> .error ts|m+1=>termN m) fun x=>ret (Ex.mk 8 [] q.1 q.2 [x])) ts else ret (Ex.mk 1 [] q.1 q.2 []) ts) ts:=by cases n<;>exact if_pos hN
 rw [hq0] at hres
 clear hq0
 cases ts with
 | nil=>cases hN
 | cons t0 t1=>
 have g1:=Xgy hN
 have k1:=Q0 b (t0::t1) en qs
 rw [g1] at k1
 simp only [List.length_cons] at hts
 have htk:=Ww b t1 en qs sSlash
 cases hS0:isT sSlash t1
 · rw [hS0,if_neg Yb9] at htk
   have g2:fracP (t0::t1)= .ok ((t0.n,1),t1):=by
     unfold fracP;rw [Wg g1,if_neg (by rw [hS0];simp)];rfl
   have hq:=hres
   rw [Wg g2] at hq
   clear hres
   (repeat' (first|(apply X4 13;refine Wc (.one 0 rfl .nil) Tryz.func157 rfl k1 rfl ?_ ?_)|refine Xe ?_|refine Xb ?_|refine Xc ?_|(apply Xn;exact Yeo;exact rfl)|refine Xs ?_|refine Xy rfl ?_|(apply Xh;exact rfl;first|(apply Xi;(refine Xk (.one 1 rfl .nil) Tryz.func190 rfl hin rfl ?_;rintro _ _ ⟨rfl,rfl⟩))|(apply Wb;refine X8 ?_;intro _))))
   all_goals (try (exfalso;first|contradiction|omega))
   rotate_left
   · rintro ch loc ⟨e,g9,rfl,rfl⟩;cases g9
   rintro _ loc ⟨x0,r0,g9,rfl,rfl⟩
   injection g9 with g9;injection g9 with g9 g8;subst g9 g8
   cases hS:isT sStar t1
   · have his:=W3 b t1 en qs sStar
     rw [hS] at his
     have hres:=hq.symm.trans (if_neg (by rw [hS];simp))
     (repeat' (first|refine Xe ?_|refine Xb ?_|refine Xc ?_|(apply Xn;(first|exact Xf rfl|exact Ya1|exact Yay);exact rfl)|refine Xs ?_|refine Xw ?_|refine Xy rfl ?_|(apply Xh;exact rfl;first|(apply Xi;first|(refine Xk (.one 1 rfl .nil) Tryz.func155 rfl htk rfl ?_;rintro _ _ ⟨rfl,rfl⟩)|(refine Xk (.one 0 rfl .nil) Tryz.func184 rfl his rfl ?_;rintro _ _ ⟨rfl,rfl⟩))|(apply Wb;refine X8 ?_;intro _)|(apply Xt;first|refine Xj (k:=0) (l0:=[]) rfl rfl rfl ?_|refine Xj (k:=2) (l0:=[]) rfl rfl rfl ?_))))
     all_goals (try (exfalso;first|contradiction|omega))
     exact ⟨.inr rfl,Xbz (Vd rfl (.cella (k:=2) rfl rfl rfl rfl inferInstance rfl) Ybd ⟨rfl,rfl⟩) (Ims.agg (Xbi _ _ _ _)) ⟨1,_,_,hres,rfl,rfl⟩⟩
   have his:=W3 b t1 en qs sStar
   rw [hS] at his
   have hq:=hq.symm.trans (if_pos hS)
   cases n with
   | zero=>
     have hd:=Sa b t1 en qs
     (repeat' (first|(apply X4 38;refine Wc (.one 0 rfl .nil) Tryz.func228 rfl hd rfl ?_ ?_)|refine Xe ?_|refine Xb ?_|refine Xc ?_|(apply Xn;(first|exact Xf rfl|exact Yay);exact rfl)|refine Xs ?_|refine Xx rfl ?_|refine Xy rfl ?_|(apply Xh;exact rfl;first|(apply Xi;first|(refine Xk (.one 1 rfl .nil) Tryz.func155 rfl htk rfl ?_;rintro _ _ ⟨rfl,rfl⟩)|(refine Xk (.one 0 rfl .nil) Tryz.func184 rfl his rfl ?_;rintro _ _ ⟨rfl,rfl⟩))|(apply Wb;refine X8 ?_;intro _)|(apply Xt;refine Xj (k:=0) (l0:=[]) rfl rfl rfl ?_))))
     all_goals (try (exfalso;first|contradiction|omega))
     · rintro _ _ h;exact h.elim
     · rintro ch loc ⟨rfl,rfl⟩;((repeat (first|(with_reducible refine Wh ?_)|(with_reducible refine Wl ?_)));refine X2 (loc':=[]) (List.nil_sublist _) ?_);exact ⟨_,hq,rfl,rfl⟩
   | succ m=>
     have hd:=Tw b t1 en qs m hn
     have kw:=Vg b t1 en qs sStar
     replace hq:res=bnd (want sStar) (fun _=>bnd (termN m) fun x=>ret (Ex.mk 8 [] t0.n 1 [x])) t1:=hq
     (repeat' (first|(apply X4 40;refine Wc (.one 0 rfl .nil) Tryz.func146 rfl kw rfl ?_ ?_)|refine Xe ?_|refine Xb ?_|refine Xc ?_|(apply Xn;exact Ydk;exact rfl)|refine Xs ?_|refine Xx rfl ?_|refine Xy rfl ?_|(apply Xh;exact rfl;first|(apply Xi;first|(refine Xk (.one 1 rfl .nil) Tryz.func155 rfl htk rfl ?_;rintro _ _ ⟨rfl,rfl⟩)|(refine Xk (.one 0 rfl .nil) Tryz.func184 rfl his rfl ?_;rintro _ _ ⟨rfl,rfl⟩)|(refine Xk (.one 0 rfl .nil) Tryz.func228 rfl hd rfl ?_;rintro _ _ ⟨rfl,rfl⟩))|(apply Wb;refine X8 ?_;intro _)|(apply Xt;refine Xj (k:=0) (l0:=[]) rfl rfl rfl ?_))))
     all_goals (try (exfalso;first|contradiction|omega))
     rotate_left
     · rintro ch loc ⟨e,g5,rfl,rfl⟩;((repeat (first|(with_reducible refine Wh ?_)|(with_reducible refine Wl ?_)));refine X2 (loc':=[]) (List.nil_sublist _) ?_);exact ⟨e,hq.trans (X1 g5),rfl,rfl⟩
     rintro pw loc ⟨t5,g5,rfl⟩
     have hl5:=(W7 (Q:=TT) (Ss sStar)).len g5
     rw [Wg g5] at hq
     have kt:=htm m rfl b t5 en qs Yan
     (repeat' (first|(apply X4 43;refine Wc (.one 0 rfl .nil) Tryz.func212 rfl kt rfl ?_ ?_)|refine Xb ?_|refine Xc ?_|(apply Xn;(exact Xf rfl);exact rfl)))
     rotate_left
     · rintro ch loc ⟨e,g6,rfl,rfl⟩;((repeat (first|(with_reducible refine Wh ?_)|(with_reducible refine Wl ?_)));refine X2 (loc':=[]) (List.nil_sublist _) ?_);exact ⟨e,hq.trans (X1 g6),rfl,rfl⟩
     rintro _ loc ⟨kx,x,t6,g6,rfl,rfl⟩
     rw [Wg g6] at hq
     (repeat' (first|(apply W2 12;refine Stop.out ?_)|refine Xc ?_|(apply Xn;(exact Yad);exact rfl)|(apply Xh;exact rfl;first|(apply Xt;refine Xj (k:=2) (l0:=[]) rfl rfl rfl ?_)|(apply X5;(refine X6 rfl rfl ?_);intro _))))
     rename_i b44
     refine ⟨X7 (Vu (k:=0) (sz:=5) (n:=1) (c:=1) rfl rfl rfl Yao Yao (Vi (j:=0) (k:=1) (i:=4) (E:=eEx kx) [x] rfl rfl rfl rfl rfl rfl (hby:=by show 1 * 64≤_;decide))) ?_⟩
     (repeat' (first|refine Xe ?_|refine Xb ?_|refine Xc ?_|(apply Xn;(exact Ya1);exact rfl)|refine Xw ?_|(apply Xh;exact rfl;(apply Xt;refine Xj (k:=2) (l0:=[]) rfl rfl rfl ?_))))
     exact ⟨.inr rfl,Vd rfl (.cella (k:=2) rfl rfl rfl rfl inferInstance rfl) Ybd ⟨kx+1,_,_,hq,rfl,rfl⟩⟩
 · rw [hS0,if_pos rfl] at htk
   obtain ⟨t2,t3,rfl,-,-⟩:=R5 hS0
   simp only [List.length_cons] at hts
   have hin2:=Rg b t3 en qs
   have g2:fracP (t0::t2::t3)=if zeroHere t3 then .error t3 else bnd numP (fun d=>ret (t0.n,d)) t3:=by
     unfold fracP;rw [Wg g1,if_pos hS0,Wg (Td hS0)];rfl
   (repeat' (first|(apply X4 13;refine Wc (.one 0 rfl .nil) Tryz.func157 rfl k1 rfl ?_ ?_)|refine Xe ?_|refine Xb ?_|refine Xc ?_|(apply Xn;exact Yeo;exact rfl)|refine Xs ?_|refine Xy rfl ?_|(apply Xh;exact rfl;first|(apply Xi;(refine Xk (.one 1 rfl .nil) Tryz.func190 rfl hin rfl ?_;rintro _ _ ⟨rfl,rfl⟩))|(apply Wb;refine X8 ?_;intro _))))
   all_goals (try (exfalso;first|contradiction|omega))
   rotate_left
   · rintro ch loc ⟨e,g9,rfl,rfl⟩;cases g9
   rintro _ loc ⟨x0,r0,g9,rfl,rfl⟩
   injection g9 with g9;injection g9 with g9 g8;subst g9 g8
   have k3:=Q0 b t3 en qs
   have kf:=T8 b t3 en qs
   cases hN3:isNum t3
   · rw [hN3] at hin2
     have g4:numP t3= .error t3:=num_no hN3
     have hz:zeroHere t3=false:=by
       cases t3 with
       | nil=>rfl
       | cons u v=>rw [Xbd] at hN3;show (decide (u.kind=2)&&decide (u.n=0))=false;rw [hN3];rfl
     rw [hz,if_neg Yb9,X1 g4] at g2
     rw [X1 g2] at hres
     rw [g4] at k3
     (repeat' (first|(apply X4 32;refine Wc (.one 0 rfl .nil) Tryz.func157 rfl k3 rfl ?_ ?_)|refine Xe ?_|refine Xb ?_|refine Xc ?_|(apply Xn;(first|exact Xf rfl|exact Wd (b:=false) rfl (fun e=>by cases e) (fun _=>rfl)|exact Yay);exact rfl)|(refine Wv rfl rfl rfl rfl rfl ?_)|refine Xs ?_|refine Xx rfl ?_|refine Xy rfl ?_|(apply Xh;exact rfl;first|(apply Xi;first|(refine Xk (.one 1 rfl .nil) Tryz.func155 rfl htk rfl ?_;rintro _ _ ⟨rfl,rfl⟩)|(refine Xk (.one 0 rfl .nil) Tryz.func190 rfl hin2 rfl ?_;rintro _ _ ⟨rfl,rfl⟩))|(apply Wb;refine X8 ?_;intro _)|(apply Xt;refine Xj (k:=0) (l0:=[]) rfl rfl rfl ?_))))
     all_goals (try (exfalso;first|contradiction|omega))
     rotate_left
     · rintro ch loc ⟨e,g9,rfl,rfl⟩;injection g9 with g9;subst g9;((repeat (first|(with_reducible refine Wh ?_)|(with_reducible refine Wl ?_)));refine X2 (loc':=[]) (List.nil_sublist _) ?_);exact ⟨_,hres.symm,rfl,rfl⟩
     rintro _ loc ⟨x1,r1,g9,_⟩;cases g9
   rw [hN3] at hin2
   cases t3 with
   | nil=>cases hN3
   | cons u v=>
   have hlu:(u::v).length=v.length+1:=rfl
   have hN3':u.kind=2:=of_decide_eq_true hN3
   have g4:=Xgy hN3
   rw [g4] at k3
   by_cases hz0:(u::v)[0].n=0
   · have hz:zeroHere (u::v)=true:=by show (decide (u.kind=2)&&decide (u.n=0))=true;rw [decide_eq_true hN3',decide_eq_true (show u.n=0 from hz0)];rfl
     rw [if_pos hz] at g2
     rw [X1 g2] at hres
     (repeat' (first|(apply X4 30;refine Wc (.one 0 rfl .nil) Tryz.func87 rfl kf rfl ?_ ?_)|refine Xe ?_|refine Xb ?_|refine Xc ?_|(apply Xn;(first|exact Xf rfl|exact Wd (b:=true) rfl (fun _=>rfl) (fun e=>by cases e)|exact Yay);exact rfl)|(apply W0;exact rfl;exact rfl;exact rfl;exact Yef;exact rfl)|refine Xx rfl ?_|(apply Xh;exact rfl;first|(apply Xi;first|(refine Xk (.one 1 rfl .nil) Tryz.func155 rfl htk rfl ?_;rintro _ _ ⟨rfl,rfl⟩)|(refine Xk (.one 0 rfl .nil) Tryz.func190 rfl hin2 rfl ?_;rintro _ _ ⟨rfl,rfl⟩))|(apply Wb;refine X8 ?_;intro _)|(apply Xt;refine Xj (k:=0) (l0:=[]) rfl rfl rfl ?_))|(refine Xp rfl (fun hb=>?_) (fun hb=>?_)<;>(repeat (first|replace hb:=Xz hb|replace hb:=X0 hb))<;>(try (exfalso;contradiction)))))
     all_goals (try (exfalso;first|contradiction|omega))
     · rintro _ _ h;exact h.elim
     · rintro ch loc ⟨rfl,rfl⟩;((repeat (first|(with_reducible refine Wh ?_)|(with_reducible refine Wl ?_)));refine X2 (loc':=[]) (List.nil_sublist _) ?_);exact ⟨_,hres.symm,rfl,rfl⟩
   · have hz:zeroHere (u::v)=false:=by show (decide (u.kind=2)&&decide (u.n=0))=false;rw [decide_eq_true hN3',decide_eq_false (show ¬u.n=0 from hz0)];rfl
     rw [if_neg (by rw [hz];simp),Wg g4] at g2
     have hq:=hres
     rw [Wg g2] at hq
     clear hres
     (repeat' (first|(apply X4 32;refine Wc (.one 0 rfl .nil) Tryz.func157 rfl k3 rfl ?_ ?_)|refine Xe ?_|refine Xb ?_|refine Xc ?_|(apply Xn;(first|exact Xf rfl|exact Wd (b:=true) rfl (fun _=>rfl) (fun e=>by cases e)|exact Yay);exact rfl)|(apply W0;exact rfl;exact rfl;exact rfl;exact Yef;exact rfl)|refine Xs ?_|refine Xx rfl ?_|(apply Xh;exact rfl;first|(apply Xi;first|(refine Xk (.one 1 rfl .nil) Tryz.func155 rfl htk rfl ?_;rintro _ _ ⟨rfl,rfl⟩)|(refine Xk (.one 0 rfl .nil) Tryz.func190 rfl hin2 rfl ?_;rintro _ _ ⟨rfl,rfl⟩))|(apply Wb;refine X8 ?_;intro _)|(apply Xt;refine Xj (k:=0) (l0:=[]) rfl rfl rfl ?_))|(refine Xp rfl (fun hb=>?_) (fun hb=>?_)<;>(repeat (first|replace hb:=Xz hb|replace hb:=X0 hb))<;>(try (exfalso;contradiction)))))
     all_goals (try (exfalso;first|contradiction|omega))
     rotate_left
     · rintro ch loc ⟨e,g9,rfl,rfl⟩;cases g9
     rintro _ loc ⟨x1,r1,g9,rfl,rfl⟩
     injection g9 with g9;injection g9 with g9 g8;subst g9 g8
     cases hS:isT sStar v
     · have his:=W3 b v en qs sStar
       rw [hS] at his
       have hres:=hq.symm.trans (if_neg (by rw [hS];simp))
       (repeat' (first|refine Xe ?_|refine Xb ?_|refine Xc ?_|(apply Xn;exact Yez;exact rfl)|refine Xs ?_|refine Xw ?_|refine Xy rfl ?_|(apply Xh;exact rfl;first|(apply Xi;(refine Xk (.one 0 rfl .nil) Tryz.func184 rfl his rfl ?_;rintro _ _ ⟨rfl,rfl⟩))|(apply Xt;first|refine Xj (k:=1) (l0:=[]) rfl rfl rfl ?_|refine Xj (k:=2) (l0:=[]) rfl rfl rfl ?_))))
       all_goals (try (exfalso;first|contradiction|omega))
       exact ⟨.inr rfl,Xbz (Vd rfl (.cella (k:=2) rfl rfl rfl rfl inferInstance rfl) Ybd ⟨rfl,rfl⟩) (Ims.agg (Xbi _ _ _ _)) ⟨1,_,_,hres,rfl,rfl⟩⟩
     have his:=W3 b v en qs sStar
     rw [hS] at his
     have hq:=hq.symm.trans (if_pos hS)
     cases n with
     | zero=>
       have hd:=Sa b v en qs
       (repeat' (first|(apply X4 38;refine Wc (.one 0 rfl .nil) Tryz.func228 rfl hd rfl ?_ ?_)|refine Xe ?_|refine Xb ?_|refine Xc ?_|(apply Xn;exact Yep;exact rfl)|refine Xx rfl ?_|(apply Xh;exact rfl;first|(apply Xi;(refine Xk (.one 0 rfl .nil) Tryz.func184 rfl his rfl ?_;rintro _ _ ⟨rfl,rfl⟩))|(apply Xt;refine Xj (k:=1) (l0:=[]) rfl rfl rfl ?_))))
       all_goals (try (exfalso;first|contradiction|omega))
       · rintro _ _ h;exact h.elim
       · rintro ch loc ⟨rfl,rfl⟩;((repeat (first|(with_reducible refine Wh ?_)|(with_reducible refine Wl ?_)));refine X2 (loc':=[]) (List.nil_sublist _) ?_);exact ⟨_,hq,rfl,rfl⟩
     | succ m=>
       have hd:=Tw b v en qs m hn
       have kw:=Vg b v en qs sStar
       replace hq:res=bnd (want sStar) (fun _=>bnd (termN m) fun x=>ret (Ex.mk 8 [] t0.n u.n [x])) v:=hq
       (repeat' (first|(apply X4 40;refine Wc (.one 0 rfl .nil) Tryz.func146 rfl kw rfl ?_ ?_)|refine Xe ?_|refine Xb ?_|refine Xc ?_|(apply Xn;(first|exact Xf rfl|exact Xm rfl|exact Yad);exact rfl)|refine Xx rfl ?_|(apply Xh;exact rfl;first|(apply Xi;first|(refine Xk (.one 0 rfl .nil) Tryz.func184 rfl his rfl ?_;rintro _ _ ⟨rfl,rfl⟩)|(refine Xk (.one 0 rfl .nil) Tryz.func228 rfl hd rfl ?_;rintro _ _ ⟨rfl,rfl⟩))|(apply Xt;refine Xj (k:=1) (l0:=[]) rfl rfl rfl ?_))))
       all_goals (try (exfalso;first|contradiction|omega))
       rotate_left
       · rintro ch loc ⟨e,g5,rfl,rfl⟩;((repeat (first|(with_reducible refine Wh ?_)|(with_reducible refine Wl ?_)));refine X2 (loc':=[]) (List.nil_sublist _) ?_);exact ⟨e,hq.trans (X1 g5),rfl,rfl⟩
       rintro pw loc ⟨t5,g5,rfl⟩
       have hl5:=(W7 (Q:=TT) (Ss sStar)).len g5
       rw [Wg g5] at hq
       have kt:=htm m rfl b t5 en qs Yan
       (repeat' (first|(apply X4 43;refine Wc (.one 0 rfl .nil) Tryz.func212 rfl kt rfl ?_ ?_)|refine Xb ?_|refine Xc ?_|(apply Xn;(exact Xf rfl);exact rfl)))
       rotate_left
       · rintro ch loc ⟨e,g6,rfl,rfl⟩;((repeat (first|(with_reducible refine Wh ?_)|(with_reducible refine Wl ?_)));refine X2 (loc':=[]) (List.nil_sublist _) ?_);exact ⟨e,hq.trans (X1 g6),rfl,rfl⟩
       rintro _ loc ⟨kx,x,t6,g6,rfl,rfl⟩
       rw [Wg g6] at hq
       (repeat' (first|(apply W2 12;refine Stop.out ?_)|refine Xc ?_|(apply Xn;(exact Yad);exact rfl)|(apply Xh;exact rfl;first|(apply Xt;refine Xj (k:=2) (l0:=[]) rfl rfl rfl ?_)|(apply X5;(refine X6 rfl rfl ?_);intro _))))
       rename_i b44
       refine ⟨X7 (Vu (k:=0) (sz:=5) (n:=1) (c:=1) rfl rfl rfl Yao Yao (Vi (j:=0) (k:=1) (i:=4) (E:=eEx kx) [x] rfl rfl rfl rfl rfl rfl (hby:=by show 1 * 64≤_;decide))) ?_⟩
       (repeat' (first|refine Xe ?_|refine Xb ?_|refine Xc ?_|(apply Xn;(exact Ya1);exact rfl)|refine Xw ?_|(apply Xh;exact rfl;(apply Xt;refine Xj (k:=2) (l0:=[]) rfl rfl rfl ?_))))
       exact ⟨.inr rfl,Vd rfl (.cella (k:=2) rfl rfl rfl rfl inferInstance rfl) Ybd ⟨kx+1,_,_,hq,rfl,rfl⟩⟩
theorem exprs13_any: ∀n,n≤16→Xbh 212 termN n∧Xbh 189 Ty n
 | 0,h=>by
   have hf:=Xbr 0 h fun m e=>by cases e
   have ht:=Xdm 0 h hf fun m e=>by cases e
   exact ⟨ht,Xdl 0 h ht⟩
 | n+1,h=>by
   obtain ⟨h1,h2⟩:=exprs13_any n Yan
   have hf:=Xbr (n+1) h fun m e=>by cases e;exact h2
   have ht:=Xdm (n+1) h hf fun m e=>by cases e;exact h1
   exact ⟨ht,Xdl (n+1) h ht⟩
end Go.Proofs.YthdldeenpgeemaaGreatDoor
namespace Go.Fr
open Go.RowKit Go.Kx
theorem Xdn (nm:List UInt8) (pn qt ct:Int) (fr:Bool) (ti:List UInt8) (tn:Int) (p:Bool):Ims [exT nm,exI .i64 pn,exI .i64 qt,exI .i64 ct,exB p,exB fr,exI .i64 0,exT [],exI .i64 0,exI .i64 0,ex (.slice none 0 0),exT ti,exI .i64 tn] (V9 1 ⟨nm,pn,qt,ct,p,fr,.mk 0 [] 0 0 [],ti,tn⟩):=
 .cons (Im.refl _) (.cons (Im.refl _) (.cons (Im.refl _) (.cons (Im.refl _) (.cons (Im.refl _) (.cons (Im.refl _) (.cons (Im.refl _) (.cons (Im.refl _) (.cons (Im.refl _) (.cons (Im.refl _) (.cons Im.nil (.cons (Im.refl _) (.cons (Im.refl _) .nil))))))))))))
theorem Xci {k k':Nat} (h:k≤k') (x:RoundD):Ims (V9 k x) (V9 k' x):=
 .cons (Im.refl _) (.cons (Im.refl _) (.cons (Im.refl _) (.cons (Im.refl _) (.cons (Im.refl _) (.cons (Im.refl _) (.cons (Im.refl _) (.cons (Im.refl _) (.cons (Im.refl _) (.cons (Im.refl _) (.cons (Xog h _) (.cons (Im.refl _) (.cons (Im.refl _) .nil))))))))))))
theorem Xcj {k k':Nat} (h:k≤k'): ∀l:List RoundD,Ims (l.flatMap (V9 k)) (l.flatMap (V9 k'))
 | []=> .nil
 | x::l=>by
   rw [List.flatMap_cons,List.flatMap_cons]
   exact Tr (Xci h x) (Xcj h l)
end Go.Fr
namespace Go.Proofs.YthdldeenpgeemaaGreatDoor
open Go Go.RowKit Go.Kx Go.Fr Go.Lx Go.Sx
theorem Xkp {ts:List TokD} (h:isT wPlaces ts=true):scoreP ts= .ok ((true,.mk 0 [] 0 0 []),ts.tail):=(if_pos h).trans (Wg (Td h))
theorem Xm3 {ts:List TokD} (h:isT wPlaces ts=false):scoreP ts=bnd (want wScore) (fun _=>bnd (Ty 16) fun x=>ret (false,x)) ts:=if_neg (by rw [h];simp)
theorem Xie {ts:List TokD} (h:isT wTie ts=true):tieRefP ts=bnd (S9 wTie) (fun nm=>ret (nm,0)) ts:=if_pos h
theorem Xkq {ts:List TokD} (h:isT wTie ts=false):tieRefP ts= .ok (([],-1),ts):=if_neg (by rw [h];simp)
theorem Xjm (b:Nat) (ts:List TokD) (en:Nat) (qs:List SP) (hts:ts.length≤70000):FnP Tryz.prog 189 [ex (.pointer (some ⟨b,0,none⟩)),exI .i64 0] [Ua b ts en qs] (fun p loc=> ∃(k:Nat) (x:Ex) (r:List TokD),Ty 16 ts= .ok (x,r)∧p=agg (exV k x)∧loc=[Ua b r en qs]) (fun ch loc=> ∃e,Ty 16 ts= .error e∧V4 en e ch loc):=(exprs13_any 16 (Nat.le_refl _)).2 b ts en qs hts
theorem Xg9 (b:Nat) (ts:List TokD) (en:Nat) (qs:List SP) (hts:ts.length≤70000):FnP Tryz.prog 154 [ex (.pointer (some ⟨b,0,none⟩))] [Ua b ts en qs] (fun p loc=> ∃(k:Nat) (x:RoundD) (r:List TokD),roundB ts= .ok (x,r)∧p=agg (V9 k x)∧loc=[Ua b r en qs]) (fun ch loc=> ∃e,roundB ts= .error e∧V4 en e ch loc):=by
 refine Wx Tryz.func154 rfl Tryz.ntmps154 rfl fun w0 F0 out=>?_
 generalize hres:roundB ts=res
 unfold roundB at hres
 have kg1:=Te b ts en qs wRound
 (repeat' (first|(apply X4 4;refine Wc (.one 1 rfl .nil) Tryz.func145 rfl kg1 rfl ?_ ?_)|refine Xe ?_|refine Xb ?_|refine Xc ?_|(apply Xn;(exact Xf rfl);exact rfl)|(apply Xh;exact rfl;(apply Wb;refine X8 ?_;intro _))))
 all_goals (try (exfalso;first|contradiction|omega))
 rotate_left
 · rintro ch loc ⟨e,g1,rfl,rfl⟩;((repeat (first|(with_reducible refine Wh ?_)|(with_reducible refine Wl ?_)));refine X2 (loc':=[]) (List.nil_sublist _) ?_);exact ⟨e,hres.symm.trans (X1 g1),rfl,rfl⟩
 rintro _ loc ⟨nm,t1,g1,rfl,rfl⟩
 rw [Wg g1] at hres
 rename_i b2
 have kg2:=Ur b t1 en qs wPanel
 (repeat' (first|(apply X4 6;refine Wc (.one 0 rfl .nil) Tryz.func158 rfl kg2 rfl ?_ ?_)|(apply Xn;(exact Xf rfl);exact rfl)))
 all_goals (try (exfalso;first|contradiction|omega))
 rotate_left
 · rintro ch loc ⟨e,g2,rfl,rfl⟩;((repeat (first|(with_reducible refine Wh ?_)|(with_reducible refine Wl ?_)));refine X2 (loc':=[]) (List.nil_sublist _) ?_);exact ⟨e,hres.symm.trans (X1 g2),rfl,rfl⟩
 rintro _ loc ⟨pn,t2,g2,rfl,rfl⟩
 rw [Wg g2] at hres
 have kg3:=Ur b t2 en qs wQuota
 (repeat' (first|(apply X4 8;refine Wc (.one 0 rfl .nil) Tryz.func158 rfl kg3 rfl ?_ ?_)|(apply Xn;(exact Xf rfl);exact rfl)))
 all_goals (try (exfalso;first|contradiction|omega))
 rotate_left
 · rintro ch loc ⟨e,g3,rfl,rfl⟩;((repeat (first|(with_reducible refine Wh ?_)|(with_reducible refine Wl ?_)));refine X2 (loc':=[]) (List.nil_sublist _) ?_);exact ⟨e,hres.symm.trans (X1 g3),rfl,rfl⟩
 rintro _ loc ⟨qt,t3,g3,rfl,rfl⟩
 rw [Wg g3] at hres
 have hl1:=(Tq (Q:=TT) (Ss wRound) fun _ _ _=>trivial).len g1
 have hl2:=(V5 (Q:=TT) (Ss wPanel) fun _ _=>trivial).len g2
 have hl3:=(V5 (Q:=TT) (Ss wQuota) fun _ _=>trivial).len g3
 have kg5:=Qh b t3 en qs [wOver,wUnder,wLots] Yao
 (repeat' (first|(apply X4 14;refine Wj (k:=0) (E:=eStr) (t:=13) [wOver,wUnder,wLots] rfl rfl rfl rfl ?_ (hc:=by decide) (hby:=by decide);refine Wc (.one 0 rfl .nil) Tryz.func185 rfl kg5 rfl ?_ ?_)|refine Xe ?_|refine Xb ?_|refine Xc ?_|(apply Xn;exact Yep;exact rfl)|(apply Xh;exact rfl;first|(apply Xt;refine Xj (k:=1) (l0:=[]) rfl rfl rfl ?_)|(apply X5;(refine Wi rfl Yac ?_);intro _))))
 rotate_left
 · rintro ch loc ⟨e,g5,rfl,rfl⟩;((repeat (first|(with_reducible refine Wh ?_)|(with_reducible refine Wl ?_)));refine X2 (loc':=[]) (List.nil_sublist _) ?_);exact ⟨e,hres.symm.trans (X1 ((Xkb t3).trans (X1 g5))),rfl,rfl⟩
 rintro _ loc ⟨ct,t4,g5,rfl,rfl⟩
 have g6:=(Xkb t3).trans (Wg g5)
 have hl4:=(Xlu (Q:=TT) fun w _=>Ss w).len g6
 rw [Wg g6,Wg (Xgz _ _)] at hres
 have hfr:=Ww b t4 en qs wFree
 obtain ⟨t5,ht5⟩: ∃t5,t5=if isT wFree t4 then t4.tail else t4:=⟨_,rfl⟩
 have hl5:t5.length≤t4.length:=by rw [ht5];split<;>simp
 rw [←ht5] at hfr hres
 clear ht5
 generalize isT wFree t4=fr at hfr hres
 have hpl:=Ww b t5 en qs wPlaces
 have hcl:=fun t=>W3 b t en qs wTie
 cases hP:isT wPlaces t5
 · rw [hP,if_neg Yb9] at hpl
   have kw:=Vg b t5 en qs wScore
   have hsc:=Xm3 hP
   (repeat' (first|(apply X4 26;refine Wc (.one 0 rfl .nil) Tryz.func146 rfl kw rfl ?_ ?_)|refine Xe ?_|refine Xb ?_|refine Xc ?_|(apply Xn;(first|exact Xf rfl|exact Ya0|exact Yad|exact Yaz);exact rfl)|refine Xx rfl ?_|(apply Xh;exact rfl;first|(apply Xi;first|(refine Xk (.one 0 rfl .nil) Tryz.func155 rfl hfr rfl ?_;rintro _ _ ⟨rfl,rfl⟩)|(refine Xk (.one 0 rfl .nil) Tryz.func155 rfl hpl rfl ?_;rintro _ _ ⟨rfl,rfl⟩))|(apply Xt;refine Xj (k:=1) (l0:=[]) rfl rfl rfl ?_))))
   all_goals (try (exfalso;first|contradiction|omega))
   rotate_left
   · rintro ch loc ⟨e,g7,rfl,rfl⟩;((repeat (first|(with_reducible refine Wh ?_)|(with_reducible refine Wl ?_)));refine X2 (loc':=[]) (List.nil_sublist _) ?_);exact ⟨e,hres.symm.trans (X1 (hsc.trans (X1 g7))),rfl,rfl⟩
   rintro pw loc ⟨t6,g7,rfl⟩
   have hl6:=(W7 (Q:=TT) (Ss wScore)).len g7
   have kx:=Xjm b t6 en qs Yan
   (repeat' (first|(apply X4 28;refine Wc (.one 0 rfl .nil) Tryz.func189 rfl kx rfl ?_ ?_)|refine Xb ?_|refine Xc ?_|(apply Xn;(exact Xf rfl);exact rfl)))
   all_goals (try (exfalso;first|contradiction|omega))
   rotate_left
   · rintro ch loc ⟨e,g8,rfl,rfl⟩;((repeat (first|(with_reducible refine Wh ?_)|(with_reducible refine Wl ?_)));refine X2 (loc':=[]) (List.nil_sublist _) ?_);exact ⟨e,hres.symm.trans (X1 (hsc.trans ((Wg g7).trans (X1 g8)))),rfl,rfl⟩
   rintro _ loc ⟨k,x,t7,g8,rfl,rfl⟩
   have hl7:=(Xb8 16).len g8
   rw [Wg (hsc.trans ((Wg g7).trans (Wg g8)))] at hres
   (repeat' (first|(apply W2 8;refine Stop.out ?_)|refine Xe ?_|refine Xc ?_|(apply Xn;(exact Yad);exact rfl)|(apply Xh;exact rfl;(apply Xt;refine Xj (k:=1) (l0:=[]) rfl rfl rfl ?_))))
   refine ⟨X7 (env':=[(0,ex (.pointer (some ⟨b,0,none⟩))),(2,ex (.pointer (some ⟨b2,0,none⟩)))]) (loc':=[Ua b t7 en qs,row b2 54 13 [exT nm,exI .i64 pn,exI .i64 qt,exI .i64 (ct:Int),exB false,exB fr,exI .i64 x.kind,exT x.name,exI .i64 x.n,exI .i64 x.d,exL k x.l,exT [],exI .i64 0]]) (Xg (by repeat (first|exact Xr|refine Xl rfl ?_)) (by first|exact .refl _|exact .cons_cons _ (.cons _ (.refl _)))) ?_⟩
   have hcl:=hcl t7
   cases hT:isT wTie t7
   · rw [hT] at hcl
     rw [Wg (Xkq hT)] at hres
     (repeat' (first|refine Xe ?_|refine Xb ?_|refine Xc ?_|(apply Xn;exact Yez;exact rfl)|refine Xs ?_|refine Xw ?_|refine Xy rfl ?_|(apply Xh;exact rfl;first|(apply Xi;(refine Xk (.one 0 rfl .nil) Tryz.func184 rfl hcl rfl ?_;rintro _ _ ⟨rfl,rfl⟩))|(apply Xt;refine Xj (k:=1) (l0:=[]) rfl rfl rfl ?_))))
     all_goals (try (exfalso;first|contradiction|omega))
     exact ⟨.inr rfl,Vd rfl (.cella (k:=1) rfl rfl rfl rfl inferInstance rfl) Ybd ⟨k,_,_,hres.symm,rfl,rfl⟩⟩
   · rw [hT] at hcl
     have htr:=Xie hT
     have kn:=Te b t7 en qs wTie
     (repeat' (first|(apply X4 34;refine Wc (.one 0 rfl .nil) Tryz.func145 rfl kn rfl ?_ ?_)|refine Xe ?_|refine Xb ?_|refine Xc ?_|(apply Xn;exact Yep;exact rfl)|refine Xx rfl ?_|(apply Xh;exact rfl;first|(apply Xi;(refine Xk (.one 0 rfl .nil) Tryz.func184 rfl hcl rfl ?_;rintro _ _ ⟨rfl,rfl⟩))|(apply Xt;refine Xj (k:=1) (l0:=[]) rfl rfl rfl ?_))))
     all_goals (try (exfalso;first|contradiction|omega))
     rotate_left
     · rintro ch loc ⟨e,g9,rfl,rfl⟩;((repeat (first|(with_reducible refine Wh ?_)|(with_reducible refine Wl ?_)));refine X2 (loc':=[]) (List.nil_sublist _) ?_);exact ⟨e,hres.symm.trans (X1 (htr.trans (X1 g9))),rfl,rfl⟩
     rintro _ loc ⟨ti,t8,g9,rfl,rfl⟩
     rw [Wg (htr.trans (Wg g9))] at hres
     (repeat' (first|refine Xe ?_|refine Xb ?_|refine Xc ?_|(apply Xn;(first|exact Ya1|exact Yad);exact rfl)|refine Xw ?_|(apply Xh;exact rfl;(apply Xt;refine Xj (k:=1) (l0:=[]) rfl rfl rfl ?_))))
     exact ⟨.inr rfl,Vd rfl (.cella (k:=1) rfl rfl rfl rfl inferInstance rfl) Ybd ⟨k,_,_,hres.symm,rfl,rfl⟩⟩
 · rw [hP,if_pos rfl] at hpl
   rw [Wg (Xkp hP)] at hres
   (repeat' (first|(apply W2 8;refine Stop.out ?_)|refine Xe ?_|refine Xb ?_|refine Xc ?_|(apply Xn;(first|exact Xf rfl|exact Ya0|exact Yad|exact Yaz);exact rfl)|refine Xs ?_|refine Xy rfl ?_|(apply Xh;exact rfl;first|(apply Xi;first|(refine Xk (.one 0 rfl .nil) Tryz.func155 rfl hfr rfl ?_;rintro _ _ ⟨rfl,rfl⟩)|(refine Xk (.one 0 rfl .nil) Tryz.func155 rfl hpl rfl ?_;rintro _ _ ⟨rfl,rfl⟩))|(apply Xt;refine Xj (k:=1) (l0:=[]) rfl rfl rfl ?_))))
   refine ⟨X7 (env':=[(0,ex (.pointer (some ⟨b,0,none⟩))),(2,ex (.pointer (some ⟨b2,0,none⟩)))]) (loc':=[Ua b t5.tail en qs,row b2 54 13 [exT nm,exI .i64 pn,exI .i64 qt,exI .i64 (ct:Int),exB true,exB fr,exI .i64 0,exT [],exI .i64 0,exI .i64 0,ex (.slice none 0 0),exT [],exI .i64 0]]) (Xg (by repeat (first|exact Xr|refine Xl rfl ?_)) (by first|exact .refl _|exact .cons_cons _ (.cons _ (.refl _)))) ?_⟩
   have hcl:=hcl t5.tail
   cases hT:isT wTie t5.tail
   · rw [hT] at hcl
     rw [Wg (Xkq hT)] at hres
     (repeat' (first|refine Xe ?_|refine Xb ?_|refine Xc ?_|(apply Xn;exact Yez;exact rfl)|refine Xs ?_|refine Xw ?_|refine Xy rfl ?_|(apply Xh;exact rfl;first|(apply Xi;(refine Xk (.one 0 rfl .nil) Tryz.func184 rfl hcl rfl ?_;rintro _ _ ⟨rfl,rfl⟩))|(apply Xt;refine Xj (k:=1) (l0:=[]) rfl rfl rfl ?_))))
     all_goals (try (exfalso;first|contradiction|omega))
     exact ⟨.inr rfl,Xbz (Vd rfl (.cella (k:=1) rfl rfl rfl rfl inferInstance rfl) Ybd ⟨rfl,rfl⟩) (Ims.agg (Xdn _ _ _ _ _ _ _ _)) ⟨1,_,_,hres.symm,rfl,rfl⟩⟩
   · rw [hT] at hcl
     have htr:=Xie hT
     have kn:=Te b t5.tail en qs wTie
     (repeat' (first|(apply X4 34;refine Wc (.one 0 rfl .nil) Tryz.func145 rfl kn rfl ?_ ?_)|refine Xe ?_|refine Xb ?_|refine Xc ?_|(apply Xn;exact Yep;exact rfl)|refine Xx rfl ?_|(apply Xh;exact rfl;first|(apply Xi;(refine Xk (.one 0 rfl .nil) Tryz.func184 rfl hcl rfl ?_;rintro _ _ ⟨rfl,rfl⟩))|(apply Xt;refine Xj (k:=1) (l0:=[]) rfl rfl rfl ?_))))
     all_goals (try (exfalso;first|contradiction|omega))
     rotate_left
     · rintro ch loc ⟨e,g9,rfl,rfl⟩;((repeat (first|(with_reducible refine Wh ?_)|(with_reducible refine Wl ?_)));refine X2 (loc':=[]) (List.nil_sublist _) ?_);exact ⟨e,hres.symm.trans (X1 (htr.trans (X1 g9))),rfl,rfl⟩
     rintro _ loc ⟨ti,t8,g9,rfl,rfl⟩
     rw [Wg (htr.trans (Wg g9))] at hres
     (repeat' (first|refine Xe ?_|refine Xb ?_|refine Xc ?_|(apply Xn;(first|exact Ya1|exact Yad);exact rfl)|refine Xw ?_|(apply Xh;exact rfl;(apply Xt;refine Xj (k:=1) (l0:=[]) rfl rfl rfl ?_))))
     exact ⟨.inr rfl,Xbz (Vd rfl (.cella (k:=1) rfl rfl rfl rfl inferInstance rfl) Ybd ⟨rfl,rfl⟩) (Ims.agg (Xdn _ _ _ _ _ _ _ _)) ⟨1,_,_,hres.symm,rfl,rfl⟩⟩
end Go.Proofs.YthdldeenpgeemaaGreatDoor
namespace Go.Sx
open Go.Lx Go.Fr
def beginP:List TokD→Res (List UInt8):=bnd (S9 wCompetition) fun nm=>bnd (want sSemi) fun _=>ret nm
def partsP:List TokD→Res (List Crit×List ItemD×List ItemD×List TieD×List RoundD):=bnd (Tn wCriterion critB) fun cs=>bnd (Tn wBonus (Sj wBonus)) fun bs=>bnd (Tn wMalus (Sj wMalus)) fun ms=>bnd (Tn wTie tieB) fun tis=>bnd (Tn wRound roundB) fun rs=>ret (cs,bs,ms,tis,rs)
theorem Xck {α β γ:Type} (f:List TokD→Res α) (g:α→List TokD→Res β) (h:β→List TokD→Res γ):bnd (bnd f g) h=bnd f fun x=>bnd (g x) h:=by
 funext ts
 unfold bnd
 cases f ts<;>rfl
theorem Xow {α β:Type} (x:α) (g:α→List TokD→Res β):bnd (ret x) g=g x:=rfl
def restP:Nat→RulesD→List TokD→Res RulesD
 | 0,r=>bnd beginP fun nm=>restP 1 { r with name:=nm }
 | 1,r=>bnd partsP fun p=>restP 2 { r with crits:=p.1,bonus:=p.2.1,malus:=p.2.2.1,ties:=p.2.2.2.1,rounds:=p.2.2.2.2 }
 | 2,r=>bnd prizesP fun x=>restP 3 { r with prizes:=x }
 | 3,r=>bnd pointsP fun x=>restP 4 { r with points:=x.1,best:=x.2 }
 | _,r=>bnd Xpb fun _=>ret r
termination_by i=>4-i
theorem rules_rest:rulesP=restP 0 zeroR:=by
 simp only [restP,beginP,partsP,Xck,Xow]
 rfl
end Go.Sx
namespace Go.Proofs.YthdldeenpgeemaaGreatDoor
open Go Go.RowKit Go.Kx Go.Fr Go.Lx Go.Sx
theorem Xfr (b:Nat) (w:List UInt8):FnC Tryz.prog 150 [ex (.pointer (some ⟨b,0,none⟩)),exT w] [] (fun p loc=>p=Xdh (.func 186) [] [fp [ex (.pointer (some ⟨b,0,none⟩))],fp [exT w]]∧loc=[]):=by
 refine X3 Tryz.func150 rfl Tryz.ntmps150 rfl fun w0 F0 out=>?_
 (repeat' (first|(apply X4 5;refine Xba ((Vq (k:=0) (t:=3) rfl rfl).trans (Vq (k:=0) (t:=2) rfl rfl)) ?_;apply Xn;exact U9 (ps:=[]) (qs:=[fp [ex (.pointer (some ⟨b,0,none⟩))],fp [exT w]]) rfl rfl;exact rfl)|refine Xe ?_|refine Xb ?_|refine Xc ?_|(apply Xn;(exact Xm rfl);exact rfl)|refine Xw ?_|(apply Xh;exact rfl;(apply Vp;refine W4 rfl ?_;intro _))))
 exact ⟨.inr rfl,Vd rfl (.tmp rfl) (List.nil_sublist _) ⟨rfl,rfl⟩⟩
theorem Xcl (b:Nat) (ts:List TokD) (en:Nat) (qs:List SP) (w:List UInt8) (hts:ts.length≤70000):FnP Tryz.prog 153 [ex (.pointer (some ⟨b,0,none⟩)),exT w,Xdh (.func 154) [ex (.pointer (some ⟨b,0,none⟩))] []] [Ua b ts en qs] (fun p loc=> ∃(K:Nat) (x:List RoundD) (r:List TokD),Tn w roundB ts= .ok (x,r)∧p=isl (U1 K) x∧loc=[Ua b r en qs]) (fun ch loc=> ∃e,Tn w roundB ts= .error e∧V4 en e ch loc):=by
 have k0:=fun (ts:List TokD) (hts:ts.length≤70000)=>Xg9 b ts en qs hts
 have hlw:Lw TT roundB:=lw_roundT
 have hls:Less roundB:=less_round
 refine Wx Tryz.func153 rfl Tryz.ntmps153 rfl fun w0 F0 out=>?_
 generalize hres:Tn w roundB ts=res
 unfold Tn at hres
 (repeat' (first|refine Xe ?_|refine Xb ?_|refine Xc ?_|(apply Xn;(exact Xm rfl);exact rfl)|refine Xo ?_))
 refine Ws (fun x:Nat×Value×List RoundD×List TokD=>([(0,ex (.pointer (some ⟨b,0,none⟩))),(1,exT w),(2,Xdh (.func 154) [ex (.pointer (some ⟨b,0,none⟩))] []),(6,ex x.2.1)],[Ua b x.2.2.2 en qs,vec x.2.1 54 13 x.2.2.1.length (x.2.2.1.flatMap (V9 x.1))])) (fun x=>Q9 (isT w) (Vn roundB) x.2.2.1 x.2.2.2=res∧x.2.2.1.length+x.2.2.2.length≤ts.length) (fun x=>x.2.2.2.length) (0,.slice none 0 0,[],ts) ?_ ⟨hres,by show 0+ts.length≤_;omega⟩ fun x hx=>?_
 · refine Uq 54 13 ?_
   refine Leads.trans (Uo (.swap _ _ _)) ?_
   exact Xg (by repeat (first|exact Xr|refine Xl rfl ?_)) (List.Sublist.refl _)
 obtain ⟨K,v,acc,t⟩:=x
 obtain ⟨hinv,hacc⟩:=hx
 simp only at hinv hacc ⊢
 clear hres
 rw [T4 rfl (W9 hls)] at hinv
 have his:=W3 b t en qs w
 cases hT:isT w t
 · rw [hT] at his hinv
   rw [if_neg Yb9] at hinv
   (repeat' (first|(apply X4 17;refine Q3 (k:=1) (t:=6) (E:=(U1 K)) acc rfl rfl rfl rfl ?_ (hby:=by show acc.length * 136≤_;omega))|refine Xe ?_|refine Xb ?_|refine Xc ?_|(apply Xn;exact Yba;exact rfl)|refine Xw ?_|refine Wm ?_|refine Xy rfl ?_|(apply Xh;exact rfl;(apply Xi;(refine Xk (.one 0 rfl .nil) Tryz.func184 rfl his rfl ?_;rintro _ _ ⟨rfl,rfl⟩)))))
   all_goals (try (exfalso;first|contradiction|omega))
   exact ⟨.inr rfl,Vd rfl (.tmp rfl) (List.Sublist.refl _) ⟨K,_,_,hinv.symm,rfl,rfl⟩⟩
 · rw [hT] at his hinv
   rw [if_pos rfl] at hinv
   have k1:=k0 t Yan
   (repeat' (first|(apply X4 12;refine U4 (args:=[]) rfl (.one 0 rfl .nil) Tryz.func154 rfl k1 rfl ?_ ?_)|refine Xe ?_|refine Xb ?_|refine Xc ?_|(apply Xn;(exact Xf rfl);exact rfl)|refine Xo ?_|refine Xs ?_|refine Xx rfl ?_|(apply Xh;exact rfl;(apply Xi;(refine Xk (.one 0 rfl .nil) Tryz.func184 rfl his rfl ?_;rintro _ _ ⟨rfl,rfl⟩)))))
   all_goals (try (exfalso;first|contradiction|omega))
   rotate_left
   · rintro ch loc ⟨e,g1,rfl,rfl⟩;((repeat (first|(with_reducible refine Wh ?_)|(with_reducible refine Wl ?_)));refine X2 (loc':=[]) (List.nil_sublist _) ?_);exact ⟨e,hinv.symm.trans (X1 (X1 g1)),rfl,rfl⟩
   rintro _ loc ⟨ky,y,t2,g1,rfl,rfl⟩
   have hl2:=hls.lt g1
   have hw: ∀r,want sSemi t2= .ok ((),r)→Vn roundB acc t=ret (acc++[y]) r:=fun r g=>(Wg g1).trans (Wg g)
   have k2:=Vg b t2 en qs sSemi
   (repeat' (first|(apply X4 16;refine Wc (.one 1 rfl .nil) Tryz.func146 rfl k2 rfl ?_ ?_)|refine Xb ?_|refine Xc ?_|(apply Xn;exact Yba;exact rfl)|(apply Xh;exact rfl;first|(apply Ve;((refine Vb (k:=2) (l0:=[]) rfl rfl Yby rfl ?_));intro _)|(apply X5;(refine X6 rfl rfl ?_);intro _))))
   rotate_left
   · rintro ch loc ⟨e,g2,rfl,rfl⟩;((repeat (first|(with_reducible refine Wh ?_)|(with_reducible refine Wl ?_)));refine X2 (loc':=[]) (List.nil_sublist _) ?_);exact ⟨e,hinv.symm.trans (X1 (show Vn roundB acc t= .error e from (Wg g1).trans (X1 g2))),rfl,rfl⟩
   rintro pw loc ⟨t3,g2,rfl⟩
   have hl3:=(W7 (Q:=TT) (Ss sSemi)).len g2
   rw [Wg (hw t3 g2)] at hinv
   (repeat' (refine Xc ?_))
   rename_i b13 v2
   refine ⟨(max K ky,v2,acc++[y],t3),⟨hinv,by simp only [List.length_append,List.length_cons,List.length_nil];omega⟩,by show t3.length<t.length;omega,?_⟩
   refine Leads.trans (Sf (k:=2) (ps:=acc.flatMap (V9 K)++V9 ky y) rfl (Tr (Xcj (Nat.le_max_left K ky) acc) (Xci (Nat.le_max_right K ky) y))) ?_
   simp only [List.length_append,List.flatMap_append,List.length_cons,List.length_nil,List.flatMap_cons,List.flatMap_nil,List.append_nil]
   exact Xg (by repeat (first|exact Xr|refine Xl rfl ?_)) Yd3
theorem Xha (b:Nat) (ts:List TokD) (en:Nat) (q0 q1 q2 q3 q4 q5 q6 q7 q8:SP) (hts:ts.length≤70000):FnP Tryz.prog 83 [ex (.pointer (some ⟨b,0,none⟩))] [Ua b ts en [q0,q1,q2,q3,q4,q5,q6,q7,q8]] (fun _ loc=> ∃x r,beginP ts= .ok (x,r)∧loc=[Ua b r en [exT x,q1,q2,q3,q4,q5,q6,q7,q8]]) (fun ch loc=> ∃e,beginP ts= .error e∧V4 en e ch loc):=by
 refine Wx Tryz.func83 rfl Tryz.ntmps83 rfl fun w0 F0 out=>?_
 generalize hres:beginP ts=res
 unfold beginP at hres
 have k1:=Te b ts en [q0,q1,q2,q3,q4,q5,q6,q7,q8] wCompetition
 (repeat' (first|(apply X4 4;refine Wc (.one 0 rfl .nil) Tryz.func145 rfl k1 rfl ?_ ?_)|refine Xe ?_|refine Xb ?_|(apply Xn;(exact Xf rfl);exact rfl)))
 all_goals (try (exfalso;first|contradiction|omega))
 rotate_left
 · rintro ch loc ⟨e,g1,rfl,rfl⟩;((repeat (first|(with_reducible refine Wh ?_)|(with_reducible refine Wl ?_)));refine X2 (loc':=[]) (List.nil_sublist _) ?_);exact ⟨e,hres.symm.trans (X1 g1),rfl,rfl⟩
 rintro _ loc ⟨nm,t1,g1,rfl,rfl⟩
 rw [Wg g1] at hres
 have k2:=Vg b t1 en [exT nm,q1,q2,q3,q4,q5,q6,q7,q8] sSemi
 (repeat' (first|(apply X4 9;refine Wc (.one 0 rfl .nil) Tryz.func146 rfl k2 rfl ?_ ?_)|refine Xb ?_|refine Xc ?_|(apply Xn;exact Yct;exact rfl)|(apply Xh;exact rfl;(apply Xt;refine Xj (k:=0) (l0:=[]) rfl rfl rfl ?_))))
 all_goals (try (exfalso;first|contradiction|omega))
 rotate_left
 · rintro ch loc ⟨e,g2,rfl,rfl⟩;((repeat (first|(with_reducible refine Wh ?_)|(with_reducible refine Wl ?_)));refine X2 (loc':=[]) (List.nil_sublist _) ?_);exact ⟨e,hres.symm.trans (X1 g2),rfl,rfl⟩
 rintro pw loc ⟨t2,g2,rfl⟩
 rw [Wg g2] at hres
 (repeat' (refine Xc ?_))
 exact ⟨.inl rfl,Rk rfl (List.Sublist.refl _) ⟨_,_,hres.symm,rfl⟩⟩
theorem Xhb (b:Nat) (ts:List TokD) (en:Nat) (q0 q1 q2 q3 q4 q5 q6 q7 q8:SP) (hts:ts.length≤70000):FnP Tryz.prog 84 [ex (.pointer (some ⟨b,0,none⟩))] [Ua b ts en [q0,q1,q2,q3,q4,q5,q6,q7,q8]] (fun _ loc=> ∃K x r,partsP ts= .ok (x,r)∧loc=[Ua b r en [q0,isl eCrit x.1,isl eItem x.2.1,isl eItem x.2.2.1,isl eTie x.2.2.2.1,isl (U1 K) x.2.2.2.2,q6,q7,q8]]) (fun ch loc=> ∃e,partsP ts= .error e∧V4 en e ch loc):=by
 refine Wx Tryz.func84 rfl Tryz.ntmps84 rfl fun w0 F0 out=>?_
 generalize hres:partsP ts=res
 unfold partsP at hres
 have lc:=Qq (Q:=TT) wCriterion (Ss _) (Xhn (fun _ _ _=>trivial) (fun _ _=>trivial) fun w _=>Ss w) less_crit
 have li:=fun w=>Qq (Q:=TT) w (Ss _) (Xev (w:=w) (fun _ _ _=>trivial) (fun _ _=>trivial) fun w _=>Ss w) (To w)
 have lt:=Qq (Q:=TT) wTie (Ss _) (Xlr (fun _ _ _=>trivial) (Ss _) (Ss _) fun w _=>Ss w) less_tie
 have hi1:=Xfr b wBonus
 have hi2:=Xfr b wMalus
 have k1:=Xc5 b ts en [q0,q1,q2,q3,q4,q5,q6,q7,q8] wCriterion hts
 (repeat' (first|(apply X4 5;apply Xn;exact U9 (ps:=[ex (.pointer (some ⟨b,0,none⟩))]) (qs:=[]) rfl rfl;exact rfl)|(apply X4 6;refine Wc (.one 0 rfl .nil) Tryz.func147 rfl k1 rfl ?_ ?_)|refine Xe ?_|refine Xb ?_|(apply Xn;(exact Xf rfl);exact rfl)))
 all_goals (try (exfalso;first|contradiction|omega))
 rotate_left
 · rintro ch loc ⟨e,g1,rfl,rfl⟩;((repeat (first|(with_reducible refine Wh ?_)|(with_reducible refine Wl ?_)));refine X2 (loc':=[]) (List.nil_sublist _) ?_);exact ⟨e,hres.symm.trans (X1 g1),rfl,rfl⟩
 rintro _ loc ⟨cs,t1,g1,rfl,rfl⟩
 rw [Wg g1] at hres
 have h1:=lc.len g1
 have k2:=Xag b t1 en [q0,isl eCrit cs,q2,q3,q4,q5,q6,q7,q8] wBonus Yan
 (repeat' (first|(apply X4 14;refine Wc (.one 0 rfl .nil) Tryz.func149 rfl k2 rfl ?_ ?_)|refine Xe ?_|refine Xb ?_|refine Xc ?_|(apply Xn;exact Yct;exact rfl)|(apply Xh;exact rfl;first|(apply Xi;(refine Xq Tryz.func150 rfl hi1 rfl ?_;rintro _ _ ⟨rfl,rfl⟩))|(apply Xt;refine Xj (k:=0) (l0:=[]) rfl rfl rfl ?_))))
 all_goals (try (exfalso;first|contradiction|omega))
 rotate_left
 · rintro ch loc ⟨e,g2,rfl,rfl⟩;((repeat (first|(with_reducible refine Wh ?_)|(with_reducible refine Wl ?_)));refine X2 (loc':=[]) (List.nil_sublist _) ?_);exact ⟨e,hres.symm.trans (X1 g2),rfl,rfl⟩
 rintro _ loc ⟨bs,t2,g2,rfl,rfl⟩
 rw [Wg g2] at hres
 have h2:=(li wBonus).len g2
 have k3:=Xag b t2 en [q0,isl eCrit cs,isl eItem bs,q3,q4,q5,q6,q7,q8] wMalus Yan
 (repeat' (first|(apply X4 22;refine Wc (.one 0 rfl .nil) Tryz.func149 rfl k3 rfl ?_ ?_)|refine Xe ?_|refine Xb ?_|refine Xc ?_|(apply Xn;exact Yct;exact rfl)|(apply Xh;exact rfl;first|(apply Xi;(refine Xq Tryz.func150 rfl hi2 rfl ?_;rintro _ _ ⟨rfl,rfl⟩))|(apply Xt;refine Xj (k:=0) (l0:=[]) rfl rfl rfl ?_))))
 all_goals (try (exfalso;first|contradiction|omega))
 rotate_left
 · rintro ch loc ⟨e,g3,rfl,rfl⟩;((repeat (first|(with_reducible refine Wh ?_)|(with_reducible refine Wl ?_)));refine X2 (loc':=[]) (List.nil_sublist _) ?_);exact ⟨e,hres.symm.trans (X1 g3),rfl,rfl⟩
 rintro _ loc ⟨ms,t3,g3,rfl,rfl⟩
 rw [Wg g3] at hres
 have h3:=(li wMalus).len g3
 have k4:=Xd8 b t3 en [q0,isl eCrit cs,isl eItem bs,isl eItem ms,q4,q5,q6,q7,q8] wTie Yan
 (repeat' (first|(apply X4 29;apply Xn;exact U9 (ps:=[ex (.pointer (some ⟨b,0,none⟩))]) (qs:=[]) rfl rfl;exact rfl)|(apply X4 30;refine Wc (.one 0 rfl .nil) Tryz.func151 rfl k4 rfl ?_ ?_)|refine Xe ?_|refine Xb ?_|refine Xc ?_|(apply Xn;exact Yct;exact rfl)|(apply Xh;exact rfl;(apply Xt;refine Xj (k:=0) (l0:=[]) rfl rfl rfl ?_))))
 all_goals (try (exfalso;first|contradiction|omega))
 rotate_left
 · rintro ch loc ⟨e,g4,rfl,rfl⟩;((repeat (first|(with_reducible refine Wh ?_)|(with_reducible refine Wl ?_)));refine X2 (loc':=[]) (List.nil_sublist _) ?_);exact ⟨e,hres.symm.trans (X1 g4),rfl,rfl⟩
 rintro _ loc ⟨tis,t4,g4,rfl,rfl⟩
 rw [Wg g4] at hres
 have h4:=lt.len g4
 have k5:=Xcl b t4 en [q0,isl eCrit cs,isl eItem bs,isl eItem ms,isl eTie tis,q5,q6,q7,q8] wRound Yan
 (repeat' (first|(apply X4 37;apply Xn;exact U9 (ps:=[ex (.pointer (some ⟨b,0,none⟩))]) (qs:=[]) rfl rfl;exact rfl)|(apply X4 38;refine Wc (.one 0 rfl .nil) Tryz.func153 rfl k5 rfl ?_ ?_)|refine Xb ?_|refine Xc ?_|(apply Xn;exact Yct;exact rfl)|(apply Xh;exact rfl;(apply Xt;refine Xj (k:=0) (l0:=[]) rfl rfl rfl ?_))))
 all_goals (try (exfalso;first|contradiction|omega))
 rotate_left
 · rintro ch loc ⟨e,g5,rfl,rfl⟩;((repeat (first|(with_reducible refine Wh ?_)|(with_reducible refine Wl ?_)));refine X2 (loc':=[]) (List.nil_sublist _) ?_);exact ⟨e,hres.symm.trans (X1 g5),rfl,rfl⟩
 rintro _ loc ⟨K,rs,t5,g5,rfl,rfl⟩
 rw [Wg g5] at hres
 (repeat' (first|refine Xc ?_|(apply Xn;(first|exact Yad|exact Yat);exact rfl)|(apply Xh;exact rfl;(apply Xt;refine Xj (k:=0) (l0:=[]) rfl rfl rfl ?_))))
 exact ⟨.inl rfl,Rk rfl (List.Sublist.refl _) ⟨K,(cs,bs,ms,tis,rs),_,hres.symm,rfl⟩⟩
theorem Xfs (b:Nat) (ts:List TokD) (en:Nat) (q0 q1 q2 q3 q4 q5 q6 q7 q8:SP) (hts:ts.length≤70000):FnP Tryz.prog 85 [ex (.pointer (some ⟨b,0,none⟩))] [Ua b ts en [q0,q1,q2,q3,q4,q5,q6,q7,q8]] (fun _ loc=> ∃x r,prizesP ts= .ok (x,r)∧loc=[Ua b r en (if isT wPrizes ts then [q0,q1,q2,q3,q4,q5,isl eI x,q7,q8] else [q0,q1,q2,q3,q4,q5,q6,q7,q8])]) (fun ch loc=> ∃e,prizesP ts= .error e∧V4 en e ch loc):=by
 refine Wx Tryz.func85 rfl Tryz.ntmps85 rfl fun w0 F0 out=>?_
 generalize hres:prizesP ts=res
 have htk:=Ww b ts en [q0,q1,q2,q3,q4,q5,q6,q7,q8] wPrizes
 cases hT:isT wPrizes ts
 · have hq:prizesP ts= .ok ([],ts):=if_neg (by rw [hT];simp)
   rw [hq] at hres
   rw [hT,if_neg Yb9] at htk
   (repeat' (first|refine Xe ?_|refine Xb ?_|refine Xc ?_|(apply Xn;(exact Xf rfl);exact rfl)|refine Xs ?_|refine Xy rfl ?_|(apply Xh;exact rfl;(apply Xi;(refine Xk (.one 0 rfl .nil) Tryz.func155 rfl htk rfl ?_;rintro _ _ ⟨rfl,rfl⟩)))))
   all_goals (try (exfalso;first|contradiction|omega))
   exact ⟨.inl rfl,Rk rfl (List.Sublist.refl _) ⟨_,_,hres.symm,rfl⟩⟩
 · have hq:prizesP ts=bnd (Qp numP) (fun l=>bnd (want sSemi) fun _=>ret l) ts.tail:=(if_pos hT).trans (Wg (Td hT))
   rw [hq] at hres
   rw [hT,if_pos rfl] at htk
   have hl:ts.tail.length≤ts.length:=by rw [List.length_tail];omega
   have k1:=Xav b ts.tail en [q0,q1,q2,q3,q4,q5,q6,q7,q8] Yan
   (repeat' (first|(apply X4 7;apply Xn;exact U9 (ps:=[ex (.pointer (some ⟨b,0,none⟩))]) (qs:=[]) rfl rfl;exact rfl)|(apply X4 8;refine Wc (.one 0 rfl .nil) Tryz.func156 rfl k1 rfl ?_ ?_)|refine Xe ?_|refine Xb ?_|refine Xc ?_|(apply Xn;(exact Xf rfl);exact rfl)|refine Xx rfl ?_|(apply Xh;exact rfl;(apply Xi;(refine Xk (.one 0 rfl .nil) Tryz.func155 rfl htk rfl ?_;rintro _ _ ⟨rfl,rfl⟩)))))
   all_goals (try (exfalso;first|contradiction|omega))
   rotate_left
   · rintro ch loc ⟨e,g1,rfl,rfl⟩;((repeat (first|(with_reducible refine Wh ?_)|(with_reducible refine Wl ?_)));refine X2 (loc':=[]) (List.nil_sublist _) ?_);exact ⟨e,hres.symm.trans (X1 g1),rfl,rfl⟩
   rintro _ loc ⟨x,t1,g1,rfl,rfl⟩
   rw [Wg g1] at hres
   have k2:=Vg b t1 en [q0,q1,q2,q3,q4,q5,isl eI x,q7,q8] sSemi
   (repeat' (first|(apply X4 13;refine Wc (.one 0 rfl .nil) Tryz.func146 rfl k2 rfl ?_ ?_)|refine Xb ?_|refine Xc ?_|(apply Xn;exact Yct;exact rfl)|(apply Xh;exact rfl;(apply Xt;refine Xj (k:=0) (l0:=[]) rfl rfl rfl ?_))))
   all_goals (try (exfalso;first|contradiction|omega))
   rotate_left
   · rintro ch loc ⟨e,g2,rfl,rfl⟩;((repeat (first|(with_reducible refine Wh ?_)|(with_reducible refine Wl ?_)));refine X2 (loc':=[]) (List.nil_sublist _) ?_);exact ⟨e,hres.symm.trans (X1 g2),rfl,rfl⟩
   rintro pw loc ⟨t2,g2,rfl⟩
   rw [Wg g2] at hres
   (repeat' (refine Xc ?_))
   exact ⟨.inl rfl,Rk rfl (List.Sublist.refl _) ⟨_,_,hres.symm,rfl⟩⟩
theorem Xft (b:Nat) (ts:List TokD) (en:Nat) (q0 q1 q2 q3 q4 q5 q6 q7 q8:SP) (hts:ts.length≤70000):FnP Tryz.prog 86 [ex (.pointer (some ⟨b,0,none⟩))] [Ua b ts en [q0,q1,q2,q3,q4,q5,q6,q7,q8]] (fun _ loc=> ∃x r,pointsP ts= .ok (x,r)∧loc=[Ua b r en (if isT wPoints ts then [q0,q1,q2,q3,q4,q5,q6,isl eI x.1,exI .i64 x.2] else [q0,q1,q2,q3,q4,q5,q6,q7,q8])]) (fun ch loc=> ∃e,pointsP ts= .error e∧V4 en e ch loc):=by
 refine Wx Tryz.func86 rfl Tryz.ntmps86 rfl fun w0 F0 out=>?_
 generalize hres:pointsP ts=res
 have htk:=Ww b ts en [q0,q1,q2,q3,q4,q5,q6,q7,q8] wPoints
 cases hT:isT wPoints ts
 · have hq:pointsP ts= .ok (([],0),ts):=if_neg (by rw [hT];simp)
   rw [hq] at hres
   rw [hT,if_neg Yb9] at htk
   (repeat' (first|refine Xe ?_|refine Xb ?_|refine Xc ?_|(apply Xn;(exact Xf rfl);exact rfl)|refine Xs ?_|refine Xy rfl ?_|(apply Xh;exact rfl;(apply Xi;(refine Xk (.one 0 rfl .nil) Tryz.func155 rfl htk rfl ?_;rintro _ _ ⟨rfl,rfl⟩)))))
   all_goals (try (exfalso;first|contradiction|omega))
   exact ⟨.inl rfl,Rk rfl (List.Sublist.refl _) ⟨_,_,hres.symm,rfl⟩⟩
 · have hq:pointsP ts=bnd (Qp numP) (fun l=>bnd (Si wBest) fun n=>bnd (want sSemi) fun _=>ret (l,n)) ts.tail:=(if_pos hT).trans (Wg (Td hT))
   rw [hq] at hres
   rw [hT,if_pos rfl] at htk
   have hl:ts.tail.length≤ts.length:=by rw [List.length_tail];omega
   have k1:=Xav b ts.tail en [q0,q1,q2,q3,q4,q5,q6,q7,q8] Yan
   (repeat' (first|(apply X4 7;apply Xn;exact U9 (ps:=[ex (.pointer (some ⟨b,0,none⟩))]) (qs:=[]) rfl rfl;exact rfl)|(apply X4 8;refine Wc (.one 0 rfl .nil) Tryz.func156 rfl k1 rfl ?_ ?_)|refine Xe ?_|refine Xb ?_|refine Xc ?_|(apply Xn;(exact Xf rfl);exact rfl)|refine Xx rfl ?_|(apply Xh;exact rfl;(apply Xi;(refine Xk (.one 0 rfl .nil) Tryz.func155 rfl htk rfl ?_;rintro _ _ ⟨rfl,rfl⟩)))))
   all_goals (try (exfalso;first|contradiction|omega))
   rotate_left
   · rintro ch loc ⟨e,g1,rfl,rfl⟩;((repeat (first|(with_reducible refine Wh ?_)|(with_reducible refine Wl ?_)));refine X2 (loc':=[]) (List.nil_sublist _) ?_);exact ⟨e,hres.symm.trans (X1 g1),rfl,rfl⟩
   rintro _ loc ⟨x,t1,g1,rfl,rfl⟩
   rw [Wg g1] at hres
   have k3:=Ur b t1 en [q0,q1,q2,q3,q4,q5,q6,isl eI x,q8] wBest
   (repeat' (first|(apply X4 14;refine Wc (.one 0 rfl .nil) Tryz.func158 rfl k3 rfl ?_ ?_)|refine Xe ?_|refine Xb ?_|refine Xc ?_|(apply Xn;exact Yct;exact rfl)|(apply Xh;exact rfl;(apply Xt;refine Xj (k:=0) (l0:=[]) rfl rfl rfl ?_))))
   all_goals (try (exfalso;first|contradiction|omega))
   rotate_left
   · rintro ch loc ⟨e,g3,rfl,rfl⟩;((repeat (first|(with_reducible refine Wh ?_)|(with_reducible refine Wl ?_)));refine X2 (loc':=[]) (List.nil_sublist _) ?_);exact ⟨e,hres.symm.trans (X1 g3),rfl,rfl⟩
   rintro _ loc ⟨n,t3,g3,rfl,rfl⟩
   rw [Wg g3] at hres
   have k2:=Vg b t3 en [q0,q1,q2,q3,q4,q5,q6,isl eI x,exI .i64 n] sSemi
   (repeat' (first|(apply X4 19;refine Wc (.one 0 rfl .nil) Tryz.func146 rfl k2 rfl ?_ ?_)|refine Xb ?_|refine Xc ?_|(apply Xn;exact Yct;exact rfl)|(apply Xh;exact rfl;(apply Xt;refine Xj (k:=0) (l0:=[]) rfl rfl rfl ?_))))
   all_goals (try (exfalso;first|contradiction|omega))
   rotate_left
   · rintro ch loc ⟨e,g2,rfl,rfl⟩;((repeat (first|(with_reducible refine Wh ?_)|(with_reducible refine Wl ?_)));refine X2 (loc':=[]) (List.nil_sublist _) ?_);exact ⟨e,hres.symm.trans (X1 g2),rfl,rfl⟩
   rintro pw loc ⟨t2,g2,rfl⟩
   rw [Wg g2] at hres
   (repeat' (refine Xc ?_))
   exact ⟨.inl rfl,Rk rfl (List.Sublist.refl _) ⟨(x,n),_,hres.symm,rfl⟩⟩
end Go.Proofs.YthdldeenpgeemaaGreatDoor
namespace Go.Fr
theorem Xhc (id:Nat) {C:Cx} {ops:Array Oper} {dr:Bool} {y:Code} {T:Exit→Act→World→Prop} {env:Env} {loc:List Ent} (h:WPR C (.seq (.region id ops dr) y) T env loc):WPR C (.seq (.region id ops dr) y) T env loc:=h
end Go.Fr
namespace Go.Proofs.YthdldeenpgeemaaGreatDoor
open Go Go.RowKit Go.Kx Go.Fr Go.Lx Go.Sx
abbrev zeroRC:List SP:=[exT [],ex (.slice none 0 0),ex (.slice none 0 0),ex (.slice none 0 0),ex (.slice none 0 0),ex (.slice none 0 0),ex (.slice none 0 0),ex (.slice none 0 0),exI .i64 0]
def Xpt (b0 b1 b2:Nat) (ps:List SP) (p1 p2:SP):List Ent:=[row b0 29 9 ps,row b1 3 1 [p1],row b2 30 1 [p2]]
theorem Xjn (b0 b1 b2:Nat) (ps:List SP) (p1 p2:SP):FnD Tryz.prog 82 [ex (.pointer (some ⟨b0,0,none⟩)),ex (.pointer (some ⟨b1,0,none⟩)),ex (.pointer (some ⟨b2,0,none⟩))] (Xpt b0 b1 b2 ps p1 p2) .returning (fun u loc=>u= .returning∧loc=Xpt b0 b1 b2 ps p1 p2):=by
 unfold Xpt
 refine Xd5 Tryz.func82 rfl Tryz.ntmps82 Xh2 fun w0 F0 out=>?_
 (repeat' (first|refine Xe ?_|refine Xb ?_|refine Xc ?_|(apply Xn;(first|exact Xf rfl|(apply Vx;exact Xd4 rfl rfl));exact rfl)|refine Xs ?_|refine Xy rfl ?_))
 exact ⟨.inl rfl,Rk rfl (List.Sublist.refl _) rfl⟩
theorem Xhd (b0 b1 b2:Nat) (p1 p2:SP) (at_:Int):FnD Tryz.prog 82 [ex (.pointer (some ⟨b0,0,none⟩)),ex (.pointer (some ⟨b1,0,none⟩)),ex (.pointer (some ⟨b2,0,none⟩))] (Xpt b0 b1 b2 zeroRC p1 p2) (.panicking [{ v:= .iface 139 (.agg #[.int .i64 at_]),recovered:=false }]) (fun u loc=>u= .panicking [{ v:= .iface 139 (.agg #[.int .i64 at_]),recovered:=true }]∧loc=Xpt b0 b1 b2 zeroRC (exI .i64 at_) (exI .i64 130)):=by
 unfold Xpt
 refine Xd5 Tryz.func82 rfl Tryz.ntmps82 Xfg fun w0 F0 out=>?_
 (repeat' (first|(apply X4 11;apply Xn;exact Xjb rfl rfl;exact rfl)|(apply Wa 5;refine Stop.out ?_)|refine Xe ?_|refine Xb ?_|refine Xc ?_|(apply Xn;(first|exact Xf rfl|exact Xm rfl|exact Ybb|(apply Vx;exact Xgv rfl rfl)|exact Yaz);exact rfl)|refine Xs ?_|refine Xx rfl ?_|refine Xy rfl ?_|(apply Xh;exact rfl;first|(apply Wb;refine X8 ?_;intro _)|(apply Xt;refine Xj (k:=0) (l0:=[]) rfl rfl rfl ?_))))
 rename_i b4
 refine ⟨?_⟩
 (refine Vh ([row b4 139 1 [exI .i64 at_]]) 6 rfl ?_)
 all_goals ((apply Xd 0 rfl Yaa rfl Yab Xa;(exact Ybq);exact rfl))
 all_goals ((apply Xd 1 rfl Yaa rfl Yab Xa;(exact Yad);exact rfl))
 all_goals ((apply Xv 2 rfl Yaa rfl Yaa Yab Xa;(exact Yai);exact rfl))
 all_goals ((apply Xu 3;exact Yaa;exact rfl;exact Xa;exact (fun _ _ h=>h);(apply Xt;refine Xj (k:=1) (hH:=Ycr) rfl rfl rfl ?_)))
 all_goals ((apply Xu 4;exact Yaa;exact rfl;exact Xa;exact (fun _ _ h=>h);(apply Xt;refine Xj (k:=2) (hH:=Ycr) rfl rfl rfl ?_)))
 all_goals ((apply Xu 5;exact Yaa;exact rfl;exact Xa;exact (fun _ _ h=>h);(apply Xt;refine Xj (k:=3) (hH:=Ycr) rfl rfl rfl ?_)))
 all_goals (refine X9 Yaa ?_)
 all_goals ((repeat' (fail)))
 exact ⟨.inl rfl,Rk (loc':=[row b0 29 9 zeroRC,row b1 3 1 [exI .i64 at_],row b2 30 1 [exI .i64 130]]) rfl (by exact .cons _ (.refl _)) rfl⟩
end Go.Proofs.YthdldeenpgeemaaGreatDoor
namespace Go.Sx
open Go.Lx Go.Fr
theorem Xq9 (r:RulesD):restP 0 r=bnd beginP fun nm=>restP 1 { r with name:=nm }:=by rw [restP]
theorem Xra (r:RulesD):restP 1 r=bnd partsP fun p=>restP 2 { r with crits:=p.1,bonus:=p.2.1,malus:=p.2.2.1,ties:=p.2.2.2.1,rounds:=p.2.2.2.2 }:=by rw [restP]
theorem Xrb (r:RulesD):restP 2 r=bnd prizesP fun x=>restP 3 { r with prizes:=x }:=by rw [restP]
theorem Xrc (r:RulesD):restP 3 r=bnd pointsP fun x=>restP 4 { r with points:=x.1,best:=x.2 }:=by rw [restP]
theorem Xrd (r:RulesD):restP 4 r=bnd Xpb fun _=>ret r:=by rw [restP]<;>(intro h;omega)
theorem Xox {ts:List TokD} {en:Nat} {r:RulesD} {u:List TokD} (h:restP 0 zeroR ts= .ok (r,u)):Qr ts en=(r,0,0):=by unfold Qr;rw [rules_rest,h]
theorem Xm4 {ts e:List TokD} {en:Nat} (h:restP 0 zeroR ts= .error e):Qr ts en=(zeroR,Xcu en e,130):=by unfold Qr;rw [rules_rest,h]
end Go.Sx
namespace Go.Fr
open Go.RowKit Go.Kx Go.Sx
theorem zero_im:Ims [exT [],ex (.slice none 0 0),ex (.slice none 0 0),ex (.slice none 0 0),ex (.slice none 0 0),ex (.slice none 0 0),ex (.slice none 0 0),ex (.slice none 0 0),exI .i64 0] (Wq 1 zeroR):=
 .cons (Im.refl _) (.cons Im.nil (.cons Im.nil (.cons Im.nil (.cons Im.nil (.cons Im.nil (.cons Im.nil (.cons Im.nil (.cons (Im.refl _) .nil))))))))
end Go.Fr
namespace Go.Proofs.YthdldeenpgeemaaGreatDoor
open Go Go.RowKit Go.Kx Go.Fr Go.Lx Go.Sx
def Xkr (z:RulesD×Int×Int) (p:SP) (loc:List Ent):Prop:=(∃k,p=tup [agg (Wq k z.1),exI .i64 z.2.1,exI .i64 z.2.2])∧loc=[]
theorem Xdo (ts:List TokD) (en:Nat) (hts:ts.length≤70000):FnC Tryz.prog 28 [isl eTok ts,exI .i64 (en:Int)] [] (Xkr (Qr ts en)):=by
 generalize hz:Qr ts en=z
 refine Xbk Tryz.func28 rfl Tryz.ntmps28 rfl fun w0 F0 out=>?_
 (repeat' (first|(apply Xhc 1;refine Stop.out ?_)|refine Xg0 ?_|refine Xb ?_|refine Xc ?_|(apply Xh;exact rfl;(apply Wb;refine X8 ?_;intro _))))
 rename_i b4 b5 b6
 refine ⟨?_⟩
 refine Xdu ?_
 refine Xoh (Xgp (vs:=[.pointer (some ⟨b4,0,none⟩),.pointer (some ⟨b5,0,none⟩),.pointer (some ⟨b6,0,none⟩)]) rfl) rfl ?_
 refine Xcv rfl ?_ rfl
 refine Xoi ?_
 (repeat' (first|(apply X4 16;apply Xn;exact U9 (ps:=[_]) (qs:=[]) rfl rfl;exact rfl)|(apply X4 18;apply Xn;exact U9 (ps:=[_]) (qs:=[]) rfl rfl;exact rfl)|(apply X4 20;apply Xn;exact U9 (ps:=[_]) (qs:=[]) rfl rfl;exact rfl)|(apply X4 22;apply Xn;exact U9 (ps:=[_]) (qs:=[]) rfl rfl;exact rfl)|refine Xe ?_|refine Xb ?_|refine Xc ?_|(apply Xn;(first|exact Xf rfl|exact Xm rfl|(apply Xgh;exact Xpp rfl rfl)|exact Yay);exact rfl)|refine Xo ?_|(apply Xh;exact rfl;first|(apply Vp;refine W4 rfl ?_;intro _)|(apply X5;(refine Wi rfl Yac ?_);intro _))))
 rename_i b7 b23
 refine Ws (fun x:Nat×Nat×RulesD×List TokD=>([(4,ex (.pointer (some ⟨b4,0,none⟩))),(5,ex (.pointer (some ⟨b5,0,none⟩))),(6,ex (.pointer (some ⟨b6,0,none⟩))),(7,ex (.pointer (some ⟨b7,0,none⟩))),(23,ex (.slice (some ⟨b23,0,none⟩) 4 4)),(24,exI .i64 4),(25,exI .i64 (x.1:Int))],[Ua b7 x.2.2.2 en (Wq x.2.1 x.2.2.1),row b23 1 4 [Xdh (.func 83) [ex (.pointer (some ⟨b7,0,none⟩))] [],Xdh (.func 84) [ex (.pointer (some ⟨b7,0,none⟩))] [],Xdh (.func 85) [ex (.pointer (some ⟨b7,0,none⟩))] [],Xdh (.func 86) [ex (.pointer (some ⟨b7,0,none⟩))] []],row b6 30 1 [exI .i64 0],row b5 3 1 [exI .i64 0],row b4 29 9 zeroRC])) (fun x=>x.1≤4∧restP 0 zeroR ts=restP x.1 x.2.2.1 x.2.2.2∧x.2.2.2.length≤ts.length∧(x.1≤2→x.2.2.1.prizes=[])∧(x.1≤3→x.2.2.1.points=[]∧x.2.2.1.best=0)) (fun x=>4-x.1) (0,1,zeroR,ts) ?_ ⟨Nat.zero_le _,rfl,Nat.le_refl _,fun _=>rfl,fun _=>⟨rfl,rfl⟩⟩ fun x hx=>?_
 · refine Leads.trans (Uo (.swap _ _ _)) ?_
   refine Leads.trans (Vj (k:=0) (b:=b7) (T:=143) (tot:=11) (ps:=isl eTok ts::exI .i64 (en:Int)::zeroRC) (qs:=isl eTok ts::exI .i64 (en:Int)::Wq 1 zeroR) rfl (.cons (Im.refl _) (.cons (Im.refl _) zero_im))) ?_
   exact Xg (by repeat (first|exact Xr|refine Xl rfl ?_)) (List.Sublist.refl _)
 obtain ⟨i,k,r,t⟩:=x
 obtain ⟨hi,hinv,hle,hp1,hp2⟩:=hx
 simp only at hi hinv hle hp1 hp2 ⊢
 have hpanic: ∀{env:Env} {e:List TokD},restP 0 zeroR ts= .error e→Fr.look 4 env=some (ex (.pointer (some ⟨b4,0,none⟩)))→Fr.look 5 env=some (ex (.pointer (some ⟨b5,0,none⟩)))→Fr.look 6 env=some (ex (.pointer (some ⟨b6,0,none⟩)))→ ∀e2:Ent,Xn5 (Cx.withD ⟨Tryz.prog,w0,F0,Rj [],out,44,[]⟩ ⟨.fn (.func 82) #[.pointer (some ⟨b4,0,none⟩),.pointer (some ⟨b5,0,none⟩),.pointer (some ⟨b6,0,none⟩)],#[]⟩) (Xpw ⟨Tryz.prog,w0,F0,Rj [],out,44,[]⟩ Tryz.f28 (Xkr z)) (.panic [{ v:= .iface 139 (.agg #[.int .i64 (Xcu en e)]),recovered:=false }]) env [e2,row b6 30 1 [exI .i64 0],row b5 3 1 [exI .i64 0],row b4 29 9 zeroRC]:=by
   intro env e he g4 g5 g6 e2
   rw [Xm4 he] at hz
   subst hz
   refine Xnn (vs:=[.pointer (some ⟨b4,0,none⟩),.pointer (some ⟨b5,0,none⟩),.pointer (some ⟨b6,0,none⟩)]) rfl rfl (.one 3 rfl (.one 2 rfl (.one 1 rfl .nil))) Tryz.func82 rfl rfl (Xhd b4 b5 b6 _ _ _) (.ex (.ex (.ex .nil))) ?_
   rintro u' loc' ⟨rfl,rfl⟩
   refine ⟨rfl,.inr rfl,Xbz (loc':=[]) (Xcb rfl (.cella (k:=0) g4 rfl rfl rfl inferInstance rfl) (.cell1 (k:=1) g5 rfl rfl rfl rfl) (.cell1 (k:=2) g6 rfl rfl rfl rfl) (List.nil_sublist _) ⟨rfl,rfl⟩) (Ims.tup (.cons (Ims.agg zero_im) (.cons (Im.refl _) (.cons (Im.refl _) .nil)))) ⟨⟨1,rfl⟩,rfl⟩⟩
 have l0:Lw TT beginP:=Wk (Tq (Ss _) fun _ _ _=>trivial) fun _=>Xrl _ _
 have l1:Lw TT partsP:=Wk (Qq _ (Ss _) (Xhn (fun _ _ _=>trivial) (fun _ _=>trivial) fun w _=>Ss w) less_crit) fun _=>Wk (Qq _ (Ss _) (Xev (fun _ _ _=>trivial) (fun _ _=>trivial) fun w _=>Ss w) (To _)) fun _=>Wk (Qq _ (Ss _) (Xev (fun _ _ _=>trivial) (fun _ _=>trivial) fun w _=>Ss w) (To _)) fun _=>Wk (Qq _ (Ss _) (Xlr (fun _ _ _=>trivial) (Ss _) (Ss _) fun w _=>Ss w) less_tie) fun _=>Wk (Qq _ (Ss _) lw_roundT less_round) fun _=>Vl _
 have l2:Lw TT prizesP:=Xlv (fun _ _=>trivial) fun w _=>Ss w
 have l3:Lw TT pointsP:=Xlw (fun _ _=>trivial) fun w _=>Ss w
 by_cases hlt:i<4
 · rcases (show i=0∨i=1∨i=2∨i=3 by omega) with rfl|rfl|rfl|rfl
   · rw [Xq9 r] at hinv
     have kk:=Xha b7 t en (exT r.name) (isl eCrit r.crits) (isl eItem r.bonus) (isl eItem r.malus) (isl eTie r.ties) (isl (U1 k) r.rounds) (isl eI r.prizes) (isl eI r.points) (exI .i64 r.best) Yan
     (repeat' (first|(apply X4 30;refine U4 (args:=[]) rfl (.one 0 rfl .nil) Tryz.func83 rfl kk rfl ?_ ?_)|refine Xe ?_|refine Xb ?_|refine Xc ?_|(apply Xn;exact Ycp;exact rfl)|refine Xo ?_|refine Xs ?_|refine Xx rfl ?_))
     all_goals (try (exfalso;first|contradiction|omega))
     rotate_left
     · rintro ch loc ⟨e,g1,rfl,rfl⟩
       exact hpanic (hinv.trans (X1 g1)) rfl rfl rfl _
     rintro pw loc ⟨nm,t1,g1,rfl⟩
     have hl1:=l0.len g1
     rw [Wg g1] at hinv
     (repeat' (first|refine Xb ?_|refine Xc ?_|(apply Xn;exact Ych;exact rfl)))
     exact ⟨(1,k,{ r with name:=nm },t1),⟨by omega,hinv,by show t1.length≤_;omega,fun _=>hp1 Yan,fun _=>hp2 Yan⟩,by show 4-(0+1)<4-0;omega,Xg (by repeat (first|exact Xr|refine Xl rfl ?_)) (List.Sublist.refl _)⟩
   · rw [Xra] at hinv
     have kk:=Xhb b7 t en (exT r.name) (isl eCrit r.crits) (isl eItem r.bonus) (isl eItem r.malus) (isl eTie r.ties) (isl (U1 k) r.rounds) (isl eI r.prizes) (isl eI r.points) (exI .i64 r.best) Yan
     (repeat' (first|(apply X4 30;refine U4 (args:=[]) rfl (.one 0 rfl .nil) Tryz.func84 rfl kk rfl ?_ ?_)|refine Xe ?_|refine Xb ?_|refine Xc ?_|(apply Xn;exact Ycp;exact rfl)|refine Xo ?_|refine Xs ?_|refine Xx rfl ?_))
     all_goals (try (exfalso;first|contradiction|omega))
     rotate_left
     · rintro ch loc ⟨e,g1,rfl,rfl⟩
       exact hpanic (hinv.trans (X1 g1)) rfl rfl rfl _
     rintro pw loc ⟨K,p,t1,g1,rfl⟩
     have hl1:=l1.len g1
     rw [Wg g1] at hinv
     (repeat' (first|refine Xb ?_|refine Xc ?_|(apply Xn;exact Ych;exact rfl)))
     exact ⟨(2,K,{ r with crits:=p.1,bonus:=p.2.1,malus:=p.2.2.1,ties:=p.2.2.2.1,rounds:=p.2.2.2.2 },t1),⟨by omega,hinv,by show t1.length≤_;omega,fun _=>hp1 Yan,fun _=>hp2 Yan⟩,by show 4-(1+1)<4-1;omega,Xg (by repeat (first|exact Xr|refine Xl rfl ?_)) (List.Sublist.refl _)⟩
   · rw [Xrb] at hinv
     have kk:=Xfs b7 t en (exT r.name) (isl eCrit r.crits) (isl eItem r.bonus) (isl eItem r.malus) (isl eTie r.ties) (isl (U1 k) r.rounds) (isl eI r.prizes) (isl eI r.points) (exI .i64 r.best) Yan
     (repeat' (first|(apply X4 30;refine U4 (args:=[]) rfl (.one 0 rfl .nil) Tryz.func85 rfl kk rfl ?_ ?_)|refine Xe ?_|refine Xb ?_|refine Xc ?_|(apply Xn;exact Ycp;exact rfl)|refine Xo ?_|refine Xs ?_|refine Xx rfl ?_))
     all_goals (try (exfalso;first|contradiction|omega))
     rotate_left
     · rintro ch loc ⟨e,g1,rfl,rfl⟩
       exact hpanic (hinv.trans (X1 g1)) rfl rfl rfl _
     rintro pw loc ⟨x,t1,g1,rfl⟩
     have hl1:=l2.len g1
     rw [Wg g1] at hinv
     cases hT:isT wPrizes t
     · have hq:prizesP t= .ok ([],t):=if_neg (by rw [hT];simp)
       rw [hq] at g1
       injection g1 with g1;injection g1 with g1 g2;subst g1 g2
       have hr:{ r with prizes:=[] }=r:=by have:=hp1 Yan;cases r;simp only at this;rw [this]
       rw [hr] at hinv
       (repeat' (first|refine Xb ?_|refine Xc ?_|(apply Xn;exact Ych;exact rfl)))
       exact ⟨(3,k,r,t),⟨by omega,hinv,hle,fun h=>absurd h (by show ¬3≤2;omega),fun _=>hp2 Yan⟩,by show 4-(2+1)<4-2;omega,Xg (by repeat (first|exact Xr|refine Xl rfl ?_)) (List.Sublist.refl _)⟩
     · (repeat' (first|refine Xb ?_|refine Xc ?_|(apply Xn;exact Ych;exact rfl)))
       exact ⟨(3,k,{ r with prizes:=x },t1),⟨by omega,hinv,by show t1.length≤_;omega,fun h=>absurd h (by show ¬3≤2;omega),fun _=>hp2 Yan⟩,by show 4-(2+1)<4-2;omega,Xg (by repeat (first|exact Xr|refine Xl rfl ?_)) (List.Sublist.refl _)⟩
   · rw [Xrc] at hinv
     have kk:=Xft b7 t en (exT r.name) (isl eCrit r.crits) (isl eItem r.bonus) (isl eItem r.malus) (isl eTie r.ties) (isl (U1 k) r.rounds) (isl eI r.prizes) (isl eI r.points) (exI .i64 r.best) Yan
     (repeat' (first|(apply X4 30;refine U4 (args:=[]) rfl (.one 0 rfl .nil) Tryz.func86 rfl kk rfl ?_ ?_)|refine Xe ?_|refine Xb ?_|refine Xc ?_|(apply Xn;exact Ycp;exact rfl)|refine Xo ?_|refine Xs ?_|refine Xx rfl ?_))
     all_goals (try (exfalso;first|contradiction|omega))
     rotate_left
     · rintro ch loc ⟨e,g1,rfl,rfl⟩
       exact hpanic (hinv.trans (X1 g1)) rfl rfl rfl _
     rintro pw loc ⟨x,t1,g1,rfl⟩
     have hl1:=l3.len g1
     rw [Wg g1] at hinv
     cases hT:isT wPoints t
     · have hq:pointsP t= .ok (([],0),t):=if_neg (by rw [hT];simp)
       rw [hq] at g1
       injection g1 with g1;injection g1 with g1 g2;subst g1 g2
       have hr:{ r with points:=[],best:=0 }=r:=by have:=hp2 Yan;cases r;simp only at this;rw [this.1,this.2]
       rw [hr] at hinv
       (repeat' (first|refine Xb ?_|refine Xc ?_|(apply Xn;exact Ych;exact rfl)))
       exact ⟨(4,k,r,t),⟨by omega,hinv,hle,fun h=>absurd h (by show ¬4≤2;omega),fun h=>absurd h (by show ¬4≤3;omega)⟩,by show 4-(3+1)<4-3;omega,Xg (by repeat (first|exact Xr|refine Xl rfl ?_)) (List.Sublist.refl _)⟩
     · (repeat' (first|refine Xb ?_|refine Xc ?_|(apply Xn;exact Ych;exact rfl)))
       exact ⟨(4,k,{ r with points:=x.1,best:=x.2 },t1),⟨by omega,hinv,by show t1.length≤_;omega,fun h=>absurd h (by show ¬4≤2;omega),fun h=>absurd h (by show ¬4≤3;omega)⟩,by show 4-(3+1)<4-3;omega,Xg (by repeat (first|exact Xr|refine Xl rfl ?_)) (List.Sublist.refl _)⟩
 · obtain rfl:i=4:=by omega
   rw [Xrd] at hinv
   have kf:=T8 b7 t en (Wq k r)
   cases t with
   | cons u v=>
     have hl:(u::v).length=v.length+1:=rfl
     have he:bnd Xpb (fun _=>ret r) (u::v)= .error (u::v):=X1 (if_neg Yb9)
     (repeat' (first|(apply X4 39;refine Wc (.one 0 rfl .nil) Tryz.func87 rfl kf rfl ?_ ?_)|refine Xe ?_|refine Xb ?_|refine Xc ?_|(apply Xn;(first|exact Xf rfl|exact Yai|exact Yad|exact Yd4|exact Yaj|exact Yat);exact rfl)|refine Wm ?_|refine Xy rfl ?_|(refine Xp rfl (fun hb=>?_) (fun hb=>?_)<;>(repeat (first|replace hb:=Xz hb|replace hb:=X0 hb))<;>(try (exfalso;omega)))))
     all_goals (try (exfalso;first|contradiction|omega))
     · rintro _ _ h;exact h.elim
     · rintro ch loc ⟨rfl,rfl⟩
       exact hpanic (hinv.trans he) rfl rfl rfl _
   | nil=>
     have he:bnd Xpb (fun _=>ret r) ([]:List TokD)= .ok (r,[]):=rfl
     rw [Xox (hinv.trans he)] at hz
     subst hz
     (repeat' (first|refine Xe ?_|refine Xb ?_|refine Xc ?_|(apply Xn;(first|exact Xf rfl|(apply V6;first|exact Ud (k:=0) rfl rfl rfl rfl|exact Vk (k:=0) rfl rfl rfl)|exact Yad|exact Yd4|exact Yaj|exact Yat);exact rfl)|refine Xs ?_|refine Xw ?_|refine Wm ?_|refine Xy rfl ?_|(apply Xh;exact rfl;(apply Xt;first|refine Xj (k:=2) (l0:=[]) rfl rfl rfl ?_|refine Xj (k:=3) (l0:=[]) rfl rfl rfl ?_|refine Xj (k:=4) (l0:=[]) rfl rfl rfl ?_))))
     all_goals (try (exfalso;first|contradiction|omega))
     refine Xnn (vs:=[.pointer (some ⟨b4,0,none⟩),.pointer (some ⟨b5,0,none⟩),.pointer (some ⟨b6,0,none⟩)]) rfl rfl (.one 4 rfl (.one 3 rfl (.one 2 rfl .nil))) Tryz.func82 rfl rfl (Xjn b4 b5 b6 (Wq k r) (exI .i64 0) (exI .i64 0)) (.ex (.ex (.ex .nil))) ?_
     rintro u' loc' ⟨rfl,rfl⟩
     exact ⟨rfl,.inr rfl,Xcb rfl (.cella (k:=0) rfl rfl rfl rfl inferInstance rfl) (.cell1 (k:=1) rfl rfl rfl rfl rfl) (.cell1 (k:=2) rfl rfl rfl rfl rfl) (List.nil_sublist _) ⟨⟨k,rfl⟩,rfl⟩⟩
end Go.Proofs.YthdldeenpgeemaaGreatDoor
namespace Go.Lx
theorem Xm5 {t:TokD} (h:V0 t=true):word t≠[]:=by
 obtain ⟨c,w,h1,_⟩:=Xl7 h (b:=[]) (fun d r e=>by cases e)
 rw [h1];simp
theorem Xks {p:Nat} {s:List UInt8} {l:List TokD} (h:T7 p s= .ok l):l.length≤s.length:=by
 have h1:=lex_len p s l h
 have h2:=lex_valid p s l h
 have key: ∀m:List TokD,(∀t∈m,V0 t=true)→m.length≤(m.map fun t=>(word t).length).sum:=by
   intro m
   induction m with
   | nil=>intro _;exact Nat.zero_le _
   | cons t m ih=>
     intro hm
     have a:=ih fun x hx=>hm x (List.mem_cons_of_mem _ hx)
     have b:=List.length_pos_iff.2 (Xm5 (hm t Yb9))
     simp only [List.length_cons,List.map_cons,List.sum_cons]
     omega
 exact Nat.le_trans (key l h2) h1
end Go.Lx
namespace Go.Proofs.YthdldeenpgeemaaGreatDoor
open Go Go.RowKit Go.Kx Go.Fr Go.Lx Go.Sx
theorem Ts (s:List UInt8):FnC Tryz.prog 11 [exT s] [Lab] (Xkr (Tl s)):=by
 have hlx:=Xnj s
 unfold Xpv at hlx
 by_cases hmx:65536<s.length
 · have h1:Xmo s=([],0,2):=if_pos hmx
   have h2:Tl s=(zeroR,0,2):=if_pos hmx
   rw [h1] at hlx
   rw [h2]
   dsimp only at hlx
   refine X3 Tryz.func11 rfl Tryz.ntmps11 rfl fun w0 F0 out=>?_
   (repeat' (first|refine Xe ?_|refine Xb ?_|refine Xc ?_|(apply Xn;exact Yc9;exact rfl)|refine Xw ?_|refine Xx rfl ?_|(apply Xh;exact rfl;first|(apply Xi;(refine Xk (.dup 1 rfl rfl .nil) Tryz.func17 rfl hlx rfl ?_;rintro _ _ ⟨rfl,rfl⟩))|(apply Wb;refine X8 ?_;intro _)|(apply Xt;refine Xj (k:=0) (l0:=[]) rfl rfl rfl ?_))))
   all_goals (try (exfalso;first|contradiction|omega))
   exact ⟨.inr rfl,Xbz (loc':=[]) (Xcb rfl (.cella (k:=0) rfl rfl rfl rfl inferInstance rfl) (.tmp rfl) (.tmp rfl) (List.nil_sublist _) ⟨rfl,rfl⟩) (Ims.tup (.cons (Ims.agg zero_im) (.cons (Im.refl _) (.cons (Im.refl _) .nil)))) ⟨⟨1,rfl⟩,rfl⟩⟩
 rcases Xdx s Yan with ⟨l,h0,h1⟩|⟨p,h0,h1⟩
 · have h2:Tl s=Qr l s.length:=by unfold Tl;rw [if_neg hmx,h0]
   rw [h1] at hlx
   rw [h2]
   dsimp only at hlx
   have hcnt:=Xks h0
   have hrd:=Xdo l s.length Yan
   generalize Qr l s.length=z at hrd
   refine X3 Tryz.func11 rfl Tryz.ntmps11 rfl fun w0 F0 out=>?_
   (repeat' (first|refine Xe ?_|refine Xb ?_|refine Xc ?_|(apply Xn;(first|exact Xf rfl|exact Xm rfl|exact Ybb|exact Ybo|exact Yau);exact rfl)|refine Xs ?_|refine Xw ?_|refine Xy rfl ?_|(apply Xh;exact rfl;first|(apply Xi;first|(refine Xk (.dup 1 rfl rfl .nil) Tryz.func17 rfl hlx rfl ?_;rintro _ _ ⟨rfl,rfl⟩)|(refine Xq Tryz.func28 rfl hrd rfl ?_;rintro _ _ ⟨⟨k,rfl⟩,rfl⟩))|(apply Wb;refine X8 ?_;intro _)|(apply Xt;refine Xj (k:=0) (l0:=[]) rfl rfl rfl ?_))))
   all_goals (try (exfalso;first|contradiction|omega))
   exact ⟨.inr rfl,Xcb rfl (.cella (k:=0) rfl rfl rfl rfl inferInstance rfl) (.tmp rfl) (.tmp rfl) (List.nil_sublist _) ⟨⟨k,rfl⟩,rfl⟩⟩
 · have h2:Tl s=(zeroR,(p:Int),30):=by unfold Tl;rw [if_neg hmx,h0]
   rw [h1] at hlx
   rw [h2]
   dsimp only at hlx
   refine X3 Tryz.func11 rfl Tryz.ntmps11 rfl fun w0 F0 out=>?_
   (repeat' (first|refine Xe ?_|refine Xb ?_|refine Xc ?_|(apply Xn;exact Yc9;exact rfl)|refine Xw ?_|refine Xx rfl ?_|(apply Xh;exact rfl;first|(apply Xi;(refine Xk (.dup 1 rfl rfl .nil) Tryz.func17 rfl hlx rfl ?_;rintro _ _ ⟨rfl,rfl⟩))|(apply Wb;refine X8 ?_;intro _)|(apply Xt;refine Xj (k:=0) (l0:=[]) rfl rfl rfl ?_))))
   all_goals (try (exfalso;first|contradiction|omega))
   exact ⟨.inr rfl,Xbz (loc':=[]) (Xcb rfl (.cella (k:=0) rfl rfl rfl rfl inferInstance rfl) (.tmp rfl) (.tmp rfl) (List.nil_sublist _) ⟨rfl,rfl⟩) (Ims.tup (.cons (Ims.agg zero_im) (.cons (Im.refl _) (.cons (Im.refl _) .nil)))) ⟨⟨1,rfl⟩,rfl⟩⟩
end Go.Proofs.YthdldeenpgeemaaGreatDoor
