/- podiumref03.Lex. -/
import Derived.Test.YthdldeenpgeemaaGreatDoorPart5
import Derived.Test.YthdldeenpgeemaaGreatDoorPart4
import Derived.Test.YthdldeenpgeemaaGreatDoorPart3
set_option maxHeartbeats 4000000
set_option maxRecDepth 100000
namespace Go.Proofs.YthdldeenpgeemaaGreatDoor
open Go Go.RowKit Go.Kx Go.Fr Go.Lx
def Xse (z:List TokD×Int×Int):SP:=tup [isl eTok z.1,exI .i64 z.2.1,exI .i64 z.2.2]
end Go.Proofs.YthdldeenpgeemaaGreatDoor
namespace Go.Fr
open Go.RowKit Go.Kx
section
variable {C:Cx} {S:(Nat→Prop)→World→World→Prop} {env:Env} {loc:List Ent} {dst:Option Tmp} {ty:TypeId} {pos:String} {af:Array Edge} {g:Option (Nat×Bool)}
theorem Xmm {t e m:TypeId} {parts:Array (Nat×Operand)} {pq:List (Nat×List SP)} {sz bt sze bte:Nat} {z ze:Value} {qs:List SP} (ht:C.P.underlying t=some (.array m e)) [hT:TI C.P t sz bt z] [hE:TI C.P e sze bte ze] (hp:PartsO env (fun i=>some (i * sze,sze)) parts.toList pq) (hq:Nf (Xbn (z.cells.toList.map ex) pq) qs:=by simp only [Xbn,Xbf,Value.cells,List.foldl_cons,List.foldl_nil,List.map_cons,List.map_nil,List.length_cons,List.length_nil,Nat.zero_add,Nat.reduceAdd,Nat.reduceMul,Nat.mul_one,List.take_succ_cons,List.take_zero,List.drop_succ_cons,List.drop_zero,List.nil_append,List.cons_append,List.drop_nil,List.take_nil,List.set_cons_zero,List.set_cons_succ];exact ⟨rfl⟩) (hle:pq.all (fun x=>Nat.ble (x.1+x.2.length) z.cells.size)=true:=by rfl):
   WT C S ⟨dst,.build t parts,ty,pos,af,g⟩ (agg qs) env loc:=by
 constructor
 intro F a w hR
 obtain ⟨ti,hi,_,_,hz⟩:=hT.out
 obtain ⟨te,hie,hse,_,_⟩:=hE.out
 obtain ⟨r,h1,h2⟩:=Xeq (hp.vals hR) (Xiw z.cells) (fun x hx=>by
   have:=List.all_eq_true.1 hle x hx
   simpa using Nat.le_of_ble_eq_true this)
 rw [hq.h]
 refine ⟨.agg r,⟨r.toList,by simp,h2⟩,fun w' _=>?_⟩
 have hb:C.P.built t (parts.map fun x=>(x.1,a.eval x.2)).toList=some r:=by
   simp only [Program.built,hi,ht,hz,hie,hse]
   rw [Array.toList_map];exact h1
 have:=run_build (P:=C.P) w' t (parts.map fun x=>(x.1,a.eval x.2)) r hb
 generalize a.eval=ρ at this ⊢
 simp only [execOp,Sem.run_bind,this]
 rfl
end
end Go.Fr
namespace Go.Fr
theorem Xkl (id:Nat) {C:Cx} {ops:Array Oper} {dr:Bool} {y:Code} {T:Exit→Act→World→Prop} {env:Env} {loc:List Ent} (h:WPR C (.seq (.region id ops dr) y) T env loc):WPR C (.seq (.region id ops dr) y) T env loc:=h
end Go.Fr
namespace Go.Proofs.YthdldeenpgeemaaGreatDoor
open Go Go.RowKit Go.Kx Go.Fr Go.Lx
theorem Xon (s:List UInt8):FnC Tryz.prog 17 [exT s] [Lab] (fun p loc=>p=Xse (Xqo s)∧loc=[]):=by
 generalize hz:Xqo s=z
 unfold Xse
 unfold Xqo at hz
 by_cases hmx:65536<s.length
 · rw [if_pos hmx] at hz
   subst hz
   refine Xbu Tryz.func17 rfl Tryz.ntmps17 rfl fun w0 F0 out=>?_
   (repeat' (first|refine Xhf ?_|refine Xf ?_|refine Xb ?_|refine Xd ?_|(apply Xk;exact Yd1;exact rfl)|refine Xz ?_|(apply Xi;exact rfl;first|(apply Wh;refine X7 ?_;intro _)|(apply Xt;first|refine Xq (k:=0) (l0:=[]) rfl rfl rfl ?_|refine Xq (k:=1) (l0:=[]) rfl rfl rfl ?_|refine Xq (k:=2) (l0:=[]) rfl rfl rfl ?_))|(refine Xo rfl (fun hb=>?_) (fun hb=>?_)<;>(repeat (first|replace hb:=X0 hb|replace hb:=X1 hb))<;>(try (exfalso;omega)))))
   all_goals (try (exfalso;omega))
   refine Xna rfl ⟨.inr rfl,Xer (loc':=[]) (Xpp rfl (.cell1 (k:=2) rfl rfl rfl rfl rfl) (.cell1 (k:=1) rfl rfl rfl rfl rfl) (.cell1 (k:=0) rfl rfl rfl rfl rfl) (List.nil_sublist _) ⟨rfl,rfl⟩) ?_ ⟨rfl,rfl⟩⟩
   exact Ims.tup (.cons Im.nil (.cons (Im.refl _) (.cons (Im.refl _) .nil)))
 rw [if_neg hmx] at hz
 have hmax:s.length≤65536:=by omega
 refine Xbu Tryz.func17 rfl Tryz.ntmps17 rfl fun w0 F0 out=>?_
 (repeat' (first|(apply Xkl 3;refine Stop.out ?_)|refine Xhf ?_|refine Xf ?_|refine Xb ?_|refine Xd ?_|(apply Xk;exact Yd1;exact rfl)|refine Xs ?_|(apply Xi;exact rfl;(apply Wh;refine X7 ?_;intro _))|(refine Xo rfl (fun hb=>?_) (fun hb=>?_)<;>(repeat (first|replace hb:=X0 hb|replace hb:=X1 hb))<;>(try (exfalso;omega)))))
 all_goals (try (exfalso;omega))
 rename_i b2 b3 b4
 refine ⟨?_⟩
 refine Xec ?_
 refine Xph (Xbh (vs:=[.pointer (some ⟨b2,0,none⟩),.pointer (some ⟨b3,0,none⟩),.pointer (some ⟨b4,0,none⟩)]) rfl) rfl ?_
 refine Xdb rfl ?_ rfl
 refine Xpi ?_
 (repeat' (first|refine Xf ?_|refine Xb ?_|refine Xd ?_|(apply Xk;(first|exact Xe rfl|exact Xj rfl|exact Yad|(apply Xik;first|exact Xcw rfl rfl Yac|exact Xmm rfl Yac));exact rfl)|refine Xp ?_|(apply Xi;exact rfl;first|(apply U7;refine V2 rfl ?_;intro _)|(apply Wh;refine X7 ?_;intro _)|(apply Xt;refine Xq (k:=0) (l0:=[]) rfl rfl rfl ?_))))
 rename_i b5 b6
 refine W1 (fun x:Nat×Option Addr×Nat×List TokD=>([(0,exT s),(2,ex (.pointer (some ⟨b2,0,none⟩))),(3,ex (.pointer (some ⟨b3,0,none⟩))),(4,ex (.pointer (some ⟨b4,0,none⟩))),(5,ex (.pointer (some ⟨b5,0,none⟩))),(6,ex (.pointer (some ⟨b6,0,none⟩)))],[row b6 90 3 [exT s,exI .i64 (x.1:Int),ex (.slice x.2.1 x.2.2.2.length x.2.2.1)],vec (.slice x.2.1 x.2.2.2.length x.2.2.1) 40 4 x.2.2.2.length (x.2.2.2.flatMap Xch),row b5 87 6 [ex (.func (.func 41) #[] #[]),ex (.func (.func 42) #[] #[]),ex (.func (.func 43) #[] #[]),ex (.func (.func 44) #[] #[]),ex (.func (.func 45) #[] #[]),ex (.func (.func 41) #[] #[])],row b4 30 1 [exI .i64 0],row b3 3 1 [exI .i64 0],row b2 41 1 [ex (.slice none 0 0)],Lab])) (fun x=>x.1≤s.length∧x.2.2.2.length≤x.1∧Sb 0 s=(Sb x.1 (s.drop x.1)).map (x.2.2.2++ ·)) (fun x=>s.length-x.1) (0,none,0,[]) ?_ ⟨Nat.zero_le _,Nat.le_refl _,?_⟩ fun x hx=>?_
 · refine Leads.trans (Ro (T:=40) (sz:=4)).leads ?_
   refine Leads.trans (Vj (.swap _ _ _)) ?_
   exact Xg (by repeat (first|exact Xm|refine Xh rfl ?_)) (List.Sublist.refl _)
 · show Sb 0 s=(Sb 0 s).map ([]++ ·)
   cases Sb 0 s<;>rfl
 obtain ⟨i,oa,c,acc⟩:=x
 obtain ⟨hi,hacc,hinv⟩:=hx
 simp only at hi hacc hinv ⊢
 have hpanic: ∀{env:Env},Sb i (s.drop i)= .error i→Fr.look 2 env=some (ex (.pointer (some ⟨b2,0,none⟩)))→Fr.look 3 env=some (ex (.pointer (some ⟨b3,0,none⟩)))→Fr.look 4 env=some (ex (.pointer (some ⟨b4,0,none⟩)))→ ∀e2:Ent,Xo9 (Cx.withD ⟨Tryz.prog,w0,F0,T8 [Lab],out,39,[]⟩ ⟨.fn (.func 40) #[.pointer (some ⟨b2,0,none⟩),.pointer (some ⟨b3,0,none⟩),.pointer (some ⟨b4,0,none⟩)],#[]⟩) (Xqz ⟨Tryz.prog,w0,F0,T8 [Lab],out,39,[]⟩ Tryz.f17 fun p loc=>p=tup [isl eTok z.1,exI .i64 z.2.1,exI .i64 z.2.2]∧loc=[]) (.panic [{ v:= .iface 83 (.int .i64 (i:Int)),recovered:=false }]) env ([e2,row b4 30 1 [exI .i64 0],row b3 3 1 [exI .i64 0],row b2 41 1 [ex (.slice none 0 0)],Lab]):=by
   intro env he g2 g3 g4 e2
   rw [he] at hinv
   rw [show Sb 0 s= .error i from hinv] at hz
   subst hz
   refine Xow (vs:=[.pointer (some ⟨b2,0,none⟩),.pointer (some ⟨b3,0,none⟩),.pointer (some ⟨b4,0,none⟩)]) rfl rfl (.one 3 rfl (.one 2 rfl (.one 1 rfl .nil))) Tryz.func40 rfl rfl (Xjx b2 b3 b4 _ _ _ i) (.ex (.ex (.ex .nil))) ?_
   rintro u' loc' ⟨rfl,rfl⟩
   refine ⟨rfl,.inr rfl,Xer (loc':=[]) (Xpp rfl (.cell1 (k:=0) g2 rfl rfl rfl rfl) (.cell1 (k:=1) g3 rfl rfl rfl rfl) (.cell1 (k:=2) g4 rfl rfl rfl rfl) (List.nil_sublist _) ⟨rfl,rfl⟩) ?_ ⟨rfl,rfl⟩⟩
   exact Ims.tup (.cons Im.nil (.cons (Im.refl _) (.cons (Im.refl _) .nil)))
 have hpanicv: ∀{env:Env},Sb i (s.drop i)= .error i→Fr.look 2 env=some (ex (.pointer (some ⟨b2,0,none⟩)))→Fr.look 3 env=some (ex (.pointer (some ⟨b3,0,none⟩)))→Fr.look 4 env=some (ex (.pointer (some ⟨b4,0,none⟩)))→ ∀e1 e2:Ent,Xo9 (Cx.withD ⟨Tryz.prog,w0,F0,T8 [Lab],out,39,[]⟩ ⟨.fn (.func 40) #[.pointer (some ⟨b2,0,none⟩),.pointer (some ⟨b3,0,none⟩),.pointer (some ⟨b4,0,none⟩)],#[]⟩) (Xqz ⟨Tryz.prog,w0,F0,T8 [Lab],out,39,[]⟩ Tryz.f17 fun p loc=>p=tup [isl eTok z.1,exI .i64 z.2.1,exI .i64 z.2.2]∧loc=[]) (.panic [{ v:= .iface 83 (.int .i64 (i:Int)),recovered:=false }]) env (e1::[e2,row b4 30 1 [exI .i64 0],row b3 3 1 [exI .i64 0],row b2 41 1 [ex (.slice none 0 0)],Lab]):=by
   intro env he g2 g3 g4 e1 e2 F a w hR
   obtain ⟨F',hR'⟩:=Xkx (C:=Cx.withD ⟨Tryz.prog,w0,F0,T8 [Lab],out,39,[]⟩ ⟨.fn (.func 40) #[.pointer (some ⟨b2,0,none⟩),.pointer (some ⟨b3,0,none⟩),.pointer (some ⟨b4,0,none⟩)],#[]⟩) (env:=env) (List.sublist_cons_self e1 _) F a w hR
   exact hpanic he g2 g3 g4 e2 F' a w hR'
 by_cases hlt:i<s.length
 · have hcs:=Sq s[i]
   have hcf:=Xk2 s[i]
   generalize Ul s[i]=cf at hcs hcf
   by_cases h1:V8 s[i]=true
   · rw [if_pos h1] at hcf
     subst hcf
     have hst:=Xk6 b6 i s oa c acc hlt hmax hacc h1
     unfold scanL at hst
     (repeat' (first|(apply Xy 34;refine S4 (vs:=[]) (args:=[ex (.pointer (some ⟨b6,0,none⟩))]) rfl .nil (.one 0 rfl (.one 0 rfl .nil)) Tryz.func43 rfl hst rfl ?_ ?_)|refine Xf ?_|refine Xb ?_|refine Xd ?_|(apply Xk;exact Yax;exact rfl)|refine Xp ?_|refine Xs ?_|(apply Xi;exact rfl;(apply Xn;(refine X9 Tryz.func46 rfl hcs rfl ?_;rintro _ _ ⟨rfl,rfl⟩)))|(refine Xo rfl (fun hb=>?_) (fun hb=>?_)<;>(repeat (first|replace hb:=X0 hb|replace hb:=X1 hb))<;>(try (exfalso;omega)))))
     all_goals (try (exfalso;first|contradiction|omega))
     · (rintro p loc ⟨n,oa2,c2,acc2,rfl,g1,g2,g3,g4⟩;(repeat' (refine Xd ?_));exact ⟨(i+n,oa2,c2,acc2),⟨g2,by show acc2.length≤i+n;omega,hinv.trans g4⟩,by show s.length-(i+n)<s.length-i;omega,Xg (by repeat (first|exact Xm|refine Xh rfl ?_)) (List.Sublist.refl _)⟩)
     · rintro ch loc ⟨e1,rfl,rfl⟩
       refine hpanic e1 ?_ ?_ ?_ _<;>rfl
   rw [if_neg h1] at hcf
   by_cases h2:digitB s[i]=true
   · rw [if_pos h2] at hcf
     subst hcf
     have hst:=Xg6 b6 i s oa c acc hlt hmax hacc h2
     unfold scanL at hst
     (repeat' (first|(apply Xy 34;refine S4 (vs:=[]) (args:=[ex (.pointer (some ⟨b6,0,none⟩))]) rfl .nil (.one 0 rfl (.one 0 rfl (.dup 4 rfl rfl .nil))) Tryz.func44 rfl hst rfl ?_ ?_)|refine Xf ?_|refine Xb ?_|refine Xd ?_|(apply Xk;exact Yax;exact rfl)|refine Xp ?_|refine Xs ?_|(apply Xi;exact rfl;(apply Xn;(refine X9 Tryz.func46 rfl hcs rfl ?_;rintro _ _ ⟨rfl,rfl⟩)))|(refine Xo rfl (fun hb=>?_) (fun hb=>?_)<;>(repeat (first|replace hb:=X0 hb|replace hb:=X1 hb))<;>(try (exfalso;omega)))))
     all_goals (try (exfalso;first|contradiction|omega))
     · (rintro p loc ⟨n,oa2,c2,acc2,rfl,g1,g2,g3,g4⟩;(repeat' (refine Xd ?_));exact ⟨(i+n,oa2,c2,acc2),⟨g2,by show acc2.length≤i+n;omega,hinv.trans g4⟩,by show s.length-(i+n)<s.length-i;omega,Xg (by repeat (first|exact Xm|refine Xh rfl ?_)) (List.Sublist.refl _)⟩)
     · rintro ch loc ⟨e1,rfl,rfl⟩
       refine hpanic e1 ?_ ?_ ?_ _<;>rfl
   rw [if_neg h2] at hcf
   by_cases h5:s[i]=95
   · rw [if_pos h5] at hcf
     subst hcf
     have hst:=Xdt b6 i s (ex (.slice oa acc.length c))
     (repeat' (first|(apply Xy 34;refine S4 (vs:=[]) (args:=[ex (.pointer (some ⟨b6,0,none⟩))]) rfl .nil (.one 0 rfl .nil) Tryz.func41 rfl hst rfl ?_ ?_)|refine Xf ?_|refine Xb ?_|refine Xd ?_|(apply Xk;exact Yax;exact rfl)|refine Xp ?_|refine Xs ?_|(apply Xi;exact rfl;(apply Xn;(refine X9 Tryz.func46 rfl hcs rfl ?_;rintro _ _ ⟨rfl,rfl⟩)))|(refine Xo rfl (fun hb=>?_) (fun hb=>?_)<;>(repeat (first|replace hb:=X0 hb|replace hb:=X1 hb))<;>(try (exfalso;omega)))))
     all_goals (try (exfalso;first|contradiction|omega))
     · rintro p loc hF;exact hF.elim
     · rintro ch loc ⟨rfl,rfl⟩
       refine hpanicv (Xip hlt (by rw [h5];decide) (by rw [h5];decide) (by rw [h5];decide) (by rw [h5];decide)) ?_ ?_ ?_ _ _<;>rfl
   rw [if_neg h5] at hcf
   by_cases h3:spaceB s[i]=true
   · rw [if_pos h3] at hcf
     subst hcf
     have hst:=Xjv b6 i s oa c acc hlt hmax h3
     unfold scanL at hst
     (repeat' (first|(apply Xy 34;refine S4 (vs:=[]) (args:=[ex (.pointer (some ⟨b6,0,none⟩))]) rfl .nil (.one 0 rfl (.one 0 rfl .nil)) Tryz.func42 rfl hst rfl ?_ ?_)|refine Xf ?_|refine Xb ?_|refine Xd ?_|(apply Xk;exact Yax;exact rfl)|refine Xp ?_|refine Xs ?_|(apply Xi;exact rfl;(apply Xn;(refine X9 Tryz.func46 rfl hcs rfl ?_;rintro _ _ ⟨rfl,rfl⟩)))|(refine Xo rfl (fun hb=>?_) (fun hb=>?_)<;>(repeat (first|replace hb:=X0 hb|replace hb:=X1 hb))<;>(try (exfalso;omega)))))
     all_goals (try (exfalso;first|contradiction|omega))
     · (rintro p loc ⟨n,oa2,c2,acc2,rfl,g1,g2,g3,g4⟩;(repeat' (refine Xd ?_));exact ⟨(i+n,oa2,c2,acc2),⟨g2,by show acc2.length≤i+n;omega,hinv.trans g4⟩,by show s.length-(i+n)<s.length-i;omega,Xg (by repeat (first|exact Xm|refine Xh rfl ?_)) (List.Sublist.refl _)⟩)
     · rintro ch loc ⟨e1,rfl,rfl⟩
       refine hpanic e1 ?_ ?_ ?_ _<;>rfl
   rw [if_neg h3] at hcf
   by_cases h4:Su s[i]=true
   · rw [if_pos h4] at hcf
     subst hcf
     have hst:=Xk7 b6 i s oa c acc hlt hmax hacc h4
     unfold scanL at hst
     (repeat' (first|(apply Xy 34;refine S4 (vs:=[]) (args:=[ex (.pointer (some ⟨b6,0,none⟩))]) rfl .nil (.one 0 rfl (.one 0 rfl .nil)) Tryz.func45 rfl hst rfl ?_ ?_)|refine Xf ?_|refine Xb ?_|refine Xd ?_|(apply Xk;exact Yax;exact rfl)|refine Xp ?_|refine Xs ?_|(apply Xi;exact rfl;(apply Xn;(refine X9 Tryz.func46 rfl hcs rfl ?_;rintro _ _ ⟨rfl,rfl⟩)))|(refine Xo rfl (fun hb=>?_) (fun hb=>?_)<;>(repeat (first|replace hb:=X0 hb|replace hb:=X1 hb))<;>(try (exfalso;omega)))))
     all_goals (try (exfalso;first|contradiction|omega))
     · (rintro p loc ⟨n,oa2,c2,acc2,rfl,g1,g2,g3,g4⟩;(repeat' (refine Xd ?_));exact ⟨(i+n,oa2,c2,acc2),⟨g2,by show acc2.length≤i+n;omega,hinv.trans g4⟩,by show s.length-(i+n)<s.length-i;omega,Xg (by repeat (first|exact Xm|refine Xh rfl ?_)) (List.Sublist.refl _)⟩)
     · rintro ch loc ⟨e1,rfl,rfl⟩
       refine hpanic e1 ?_ ?_ ?_ _<;>rfl
   · rw [if_neg h4] at hcf
     subst hcf
     have hst:=Xdt b6 i s (ex (.slice oa acc.length c))
     (repeat' (first|(apply Xy 34;refine S4 (vs:=[]) (args:=[ex (.pointer (some ⟨b6,0,none⟩))]) rfl .nil (.one 0 rfl .nil) Tryz.func41 rfl hst rfl ?_ ?_)|refine Xf ?_|refine Xb ?_|refine Xd ?_|(apply Xk;exact Yax;exact rfl)|refine Xp ?_|refine Xs ?_|(apply Xi;exact rfl;(apply Xn;(refine X9 Tryz.func46 rfl hcs rfl ?_;rintro _ _ ⟨rfl,rfl⟩)))|(refine Xo rfl (fun hb=>?_) (fun hb=>?_)<;>(repeat (first|replace hb:=X0 hb|replace hb:=X1 hb))<;>(try (exfalso;omega)))))
     all_goals (try (exfalso;first|contradiction|omega))
     · rintro p loc hF;exact hF.elim
     · rintro ch loc ⟨rfl,rfl⟩
       refine hpanicv (Xip hlt (by simpa using h3) (by simpa using h1) Ydi (by simpa using h4)) ?_ ?_ ?_ _ _<;>rfl
 · rw [show i=s.length by omega,List.drop_length,Xco] at hinv
   have hinv:Sb 0 s= .ok acc:=by rw [hinv];show Except.ok _=Except.ok _;simp
   rw [hinv] at hz
   subst hz
   (repeat' (first|refine Xf ?_|refine Xb ?_|refine Xd ?_|(apply Xk;(first|exact Xe rfl|exact Yaf|exact Yad|exact Yak|exact Ybm|exact Yam);exact rfl)|refine Xz ?_|refine Wy ?_|(apply Xi;exact rfl;(apply Xt;first|refine Xq (k:=3) (l0:=[]) rfl rfl rfl ?_|refine Xq (k:=4) (l0:=[]) rfl rfl rfl ?_|refine Xq (k:=5) (l0:=[]) rfl rfl rfl ?_))|(refine Xo rfl (fun hb=>?_) (fun hb=>?_)<;>(repeat (first|replace hb:=X0 hb|replace hb:=X1 hb))<;>(try (exfalso;omega)))))
   all_goals (try (exfalso;first|contradiction|omega))
   refine Xow (vs:=[.pointer (some ⟨b2,0,none⟩),.pointer (some ⟨b3,0,none⟩),.pointer (some ⟨b4,0,none⟩)]) rfl rfl (.one 5 rfl (.one 4 rfl (.one 3 rfl .nil))) Tryz.func40 rfl rfl (Xk8 b2 b3 b4 (ex (.slice oa acc.length c)) (exI .i64 0) (exI .i64 0)) (.ex (.ex (.ex .nil))) ?_
   rintro u' loc' ⟨rfl,rfl⟩
   refine ⟨rfl,U5 (Vo (j:=4) (k:=0) (i:=0) (E:=eTok) acc rfl rfl rfl rfl rfl rfl (hby:=by show acc.length * 40≤_;omega)) ?_⟩
   exact ⟨.inr rfl,Xpp rfl (.cell1 (k:=0) rfl rfl rfl rfl rfl) (.cell1 (k:=1) rfl rfl rfl rfl rfl) (.cell1 (k:=2) rfl rfl rfl rfl rfl) (List.nil_sublist _) ⟨rfl,rfl⟩⟩
end Go.Proofs.YthdldeenpgeemaaGreatDoor
namespace Go.Lx
end Go.Lx
namespace Go.Proofs.YthdldeenpgeemaaGreatDoor
open Go Go.RowKit Go.Kx Go.Fr Go.Lx
end Go.Proofs.YthdldeenpgeemaaGreatDoor
namespace Go.Lx
theorem decF_len: ∀(k n:Nat),n<10 ^ (k+1)→(decF n).length≤k+1
 | 0,n,h=>by rw [Te (by simpa using h)];exact Nat.le_refl _
 | k+1,n,h=>by
   by_cases h1:n<10
   · rw [Te h1];exact Nat.succ_le_succ (Nat.zero_le _)
   · rw [R8 h1,List.length_append]
     have:=decF_len k (n / 10) (by rw [Nat.pow_succ] at h;omega)
     simp only [List.length_cons,List.length_nil];omega
theorem Xoo {t:TokD} (h:V7 t=true):(word t).length≤32:=by
 unfold V7 at h
 unfold word
 by_cases h1:t.kind=1
 · rw [if_pos h1] at h
   rw [if_neg Yan]
   unfold Xbv at h
   simp only [Bool.and_eq_true,decide_eq_true_eq] at h
   exact h.1.1.2
 rw [if_neg h1] at h
 by_cases h2:t.kind=2
 · rw [if_pos h2] at h
   rw [if_pos h2]
   simp only [Bool.and_eq_true,decide_eq_true_eq] at h
   exact Nat.le_trans (decF_len 12 _ (by have:=h.2;show _<10000000000000;omega)) Yar
 rw [if_neg h2] at h
 rw [if_neg h2]
 by_cases h3:t.kind=3
 · rw [if_pos h3] at h
   simp only [Bool.and_eq_true,decide_eq_true_eq] at h
   omega
 · rw [if_neg h3] at h;cases h
theorem joinF_len: ∀(l:List (List UInt8)),(∀w∈l,w.length≤32)→(joinF l).length≤33 * l.length
 | [],_=>Nat.zero_le _
 | [w],h=>by have:=h w Ybn;show w.length≤33;omega
 | w::v::l,h=>by
   rw [Xee]
   have h1:=h w Ybn
   have h2:=joinF_len (v::l) fun x hx=>h x (List.mem_cons_of_mem _ hx)
   simp only [List.length_append,List.length_cons] at h2 ⊢
   omega
theorem words_len {l:List TokD} (h: ∀t∈l,V7 t=true):(joinF (l.map word)).length≤33 * l.length:=by
 have:=joinF_len (l.map word) fun w hw=>by
   obtain ⟨t,ht,rfl⟩:=List.mem_map.1 hw
   exact Xoo (h t ht)
 rwa [List.length_map] at this
end Go.Lx
namespace Go.Proofs.YthdldeenpgeemaaGreatDoor
open Go Go.RowKit Go.Kx Go.Fr Go.Lx
end Go.Proofs.YthdldeenpgeemaaGreatDoor
namespace Go.Lx
theorem Xop {l:List TokD} {i:Nat} (hi:i<l.length) (h:V7 l[i]=false):Xdq l=([],30):=by
 unfold Xdq
 rw [if_neg (fun e=>by rw [List.all_eq_true.1 e l[i] (List.getElem_mem hi)] at h;cases h)]
theorem Xmn {l:List TokD} (h: ∀t∈l,V7 t=true):Xdq l=(joinF (l.map word),0):=by
 unfold Xdq
 rw [if_pos (List.all_eq_true.2 h)]
theorem Xmo {t:TokD} (h:V7 t=true) (h2:t.kind=2):((t.n.toNat:Nat):Int)=t.n∧t.n.toNat≤1099511627776:=by
 unfold V7 at h
 rw [if_neg Yan,if_pos h2] at h
 simp only [Bool.and_eq_true,decide_eq_true_eq] at h
 omega
theorem Xoq {t:TokD} (h:t.kind=2):word t=decF t.n.toNat:=by unfold word;rw [if_pos h]
theorem Xmp {t:TokD} (h: ¬t.kind=2):word t=t.text:=by unfold word;rw [if_neg h]
theorem Xor {l:List TokD} {i:Nat} (hi:i<l.length) (hv: ∀t∈l.take i,V7 t=true) (h:V7 l[i]=true): ∀t∈l.take (i+1),V7 t=true:=fun t ht=>by
 rw [List.take_succ_eq_append_getElem hi] at ht
 rcases List.mem_append.1 ht with ht|ht
 · exact hv t ht
 · rw [List.mem_singleton.1 ht];exact h
end Go.Lx
namespace Go.Proofs.YthdldeenpgeemaaGreatDoor
open Go Go.RowKit Go.Kx Go.Fr Go.Lx
def Xmq (z:List UInt8×Int):SP:=tup [exT z.1,exI .i64 z.2]
theorem Xmr (l:List TokD):FnC Tryz.prog 19 [isl eTok l] [Lab] (fun p loc=>p=Xmq (Xdq l)∧loc=[]):=by
 refine Wl (i:=0) rfl Ws fun ha=>?_
 replace ha:l.length * 40≤140737488355328:=ha.2
 generalize hz:Xdq l=z
 unfold Xmq
 refine X4 Tryz.func19 rfl Tryz.ntmps19 rfl fun w0 F0 out=>?_
 (repeat' (first|refine Xf ?_|refine Xb ?_|refine Xd ?_|(apply Xk;exact Ybx;exact rfl)|refine Xp ?_|(apply Xi;exact rfl;(apply Xpo;refine Xlm rfl rfl rfl ?_;intro _))))
 rename_i b4
 refine W1 (fun x:Nat×List (List UInt8)=>([(4,ex (.slice (some ⟨b4,0,none⟩) l.length l.length)),(10,isl eTok l),(11,exI .i64 (l.length:Int)),(12,exI .i64 (x.1:Int))],[row b4 9 l.length (x.2.map exT),Lab])) (fun x=>x.1≤l.length∧x.2.length=l.length∧x.2.take x.1=(l.take x.1).map word∧ ∀t∈l.take x.1,V7 t=true) (fun x=>l.length-x.1) (0,List.replicate l.length []) ?_ ⟨Nat.zero_le _,by simp,rfl,fun t h=>by cases h⟩ fun x hi=>?_
 · simp only [List.map_replicate]
   exact Xg (by repeat (first|exact Xm|refine Xh rfl ?_)) (List.Sublist.refl _)
 obtain ⟨i,ws⟩:=x
 obtain ⟨hi,hwl,hws,hpre⟩:=hi
 simp only at hi hwl hws hpre ⊢
 by_cases hlt:i<l.length
 · have hvl:=Xft l[i]
   cases hv:V7 l[i]
   · rw [hv] at hvl
     rw [Xop hlt hv] at hz
     subst hz
     clear hpre hws
     (repeat' (first|refine Xf ?_|refine Xb ?_|refine Xd ?_|(apply Xk;(first|exact Xe rfl|exact Xj rfl|exact Yco|exact Yak|exact Yae|exact Yaw);exact rfl)|refine Xp ?_|refine Xs ?_|refine Xz ?_|refine Xx rfl ?_|(apply Xi;exact rfl;first|(apply Xn;(refine X9 Tryz.func49 rfl hvl rfl ?_;rintro _ _ ⟨rfl,rfl⟩))|(apply Wh;refine X7 ?_;intro _)|(apply Xt;refine Xq (k:=0) (l0:=[]) rfl rfl rfl ?_))|(refine Xo rfl (fun hb=>?_) (fun hb=>?_)<;>(repeat (first|replace hb:=X0 hb|replace hb:=X1 hb))<;>(try (exfalso;omega)))))
     all_goals (try (exfalso;first|contradiction|omega))
     all_goals exact ⟨.inr rfl,Xkw rfl (.tmp rfl) (.tmp rfl) (List.nil_sublist _) ⟨rfl,rfl⟩⟩
   · rw [hv] at hvl
     have hpre2:=Xor hlt hpre hv
     have hws2: ∀w,w=word l[i]→(ws.set i w).take (i+1)=(l.take (i+1)).map word:=fun w e=>by
       rw [List.take_succ_eq_append_getElem (by rw [List.length_set];omega),List.take_set_of_le (Nat.le_refl _),List.getElem_set_self,hws,List.take_succ_eq_append_getElem hlt,List.map_append,e];rfl
     clear hpre hws
     by_cases h2:l[i].kind=2
     · obtain ⟨hn1,hn2⟩:=Xmo hv h2
       have hito:=Xiq l[i].n.toNat Yan
       rw [hn1,←Xoq h2] at hito
       clear hn1
       have hput:=Xi1 exT ws i (word l[i]) Yan
       (repeat' (first|refine Xf ?_|refine Xb ?_|refine Xd ?_|(apply Xk;exact Yb2;exact rfl)|refine Xp ?_|refine Xs ?_|refine X2 rfl ?_|(apply Xi;exact rfl;first|(apply Xn;first|(refine X9 Tryz.func49 rfl hvl rfl ?_;rintro _ _ ⟨rfl,rfl⟩)|(refine Xl (.dup 2 rfl rfl .nil) Tryz.func50 rfl hito rfl ?_;rintro _ _ ⟨rfl,rfl⟩))|(apply Wh;refine X7 ?_;intro _)|(apply Xt;first|refine Xq (k:=0) (l0:=[]) rfl rfl rfl ?_|refine Xq (k:=1) (l0:=[]) rfl rfl rfl ?_))|(refine Xo rfl (fun hb=>?_) (fun hb=>?_)<;>(repeat (first|replace hb:=X0 hb|replace hb:=X1 hb))<;>(try (exfalso;first|contradiction|omega)))))
       all_goals (try (exfalso;first|contradiction|omega))
       simp only [Nat.zero_add,Nat.mul_one,hput]
       exact ⟨(i+1,ws.set i (word l[i])),⟨by show i+1≤_;omega,by rw [List.length_set];exact hwl,hws2 _ rfl,hpre2⟩,by show l.length-(i+1)<l.length-i;omega,Xg (by repeat (first|exact Xm|refine Xh rfl ?_)) (by exact .cons _ (.refl _))⟩
     · rw [Xmp h2] at hws2
       have hput:=Xi1 exT ws i l[i].text Yan
       (repeat' (first|refine Xf ?_|refine Xb ?_|refine Xd ?_|(apply Xk;exact Yb2;exact rfl)|refine Xp ?_|refine Xs ?_|refine X2 rfl ?_|(apply Xi;exact rfl;first|(apply Xn;(refine X9 Tryz.func49 rfl hvl rfl ?_;rintro _ _ ⟨rfl,rfl⟩))|(apply Wh;refine X7 ?_;intro _)|(apply Xt;first|refine Xq (k:=0) (l0:=[]) rfl rfl rfl ?_|refine Xq (k:=1) (l0:=[]) rfl rfl rfl ?_))|(refine Xo rfl (fun hb=>?_) (fun hb=>?_)<;>(repeat (first|replace hb:=X0 hb|replace hb:=X1 hb))<;>(try (exfalso;first|contradiction|omega)))))
       all_goals (try (exfalso;first|contradiction|omega))
       simp only [Nat.zero_add,Nat.mul_one,hput]
       exact ⟨(i+1,ws.set i l[i].text),⟨by show i+1≤_;omega,by rw [List.length_set];exact hwl,hws2 _ rfl,hpre2⟩,by show l.length-(i+1)<l.length-i;omega,Xg (by repeat (first|exact Xm|refine Xh rfl ?_)) (by exact .cons _ (.refl _))⟩
 · rw [show i=l.length by omega,List.take_length,←hwl,List.take_length] at hws
   rw [show i=l.length by omega,List.take_length] at hpre
   rw [Xmn hpre] at hz
   subst hz
   have hjl:=words_len hpre
   have hjoin:=Xn1 (l.map word) (by rw [List.length_map];omega) Yan
   subst hws
   clear hpre
   have hfl: ∀x:List (List UInt8),x.map exT=x.flatMap strV:=fun x=>by
     induction x with
     | nil=>rfl
     | cons a x ih=>rw [List.map_cons,List.flatMap_cons,ih];rfl
   (repeat' (first|(apply Xy 38;refine Wj (k:=0) (E:=eStr) (t:=37) (l.map word) rfl rfl (hfl _) (List.length_map ..) ?_ (htot:=(Nat.mul_one _).symm) (hc:=by simp only [maxLen];omega) (hby:=by show l.length * 16≤_;omega))|refine Xf ?_|refine Xb ?_|refine Xd ?_|(apply Xk;exact Yba;exact rfl)|refine Xz ?_|refine Wy ?_|(apply Xi;exact rfl;(apply Xn;(refine X9 Tryz.func51 rfl hjoin rfl ?_;rintro _ _ ⟨rfl,rfl⟩)))|(refine Xo rfl (fun hb=>?_) (fun hb=>?_)<;>(repeat (first|replace hb:=X0 hb|replace hb:=X1 hb))<;>(try (exfalso;omega)))))
   all_goals (try (exfalso;omega))
   exact ⟨.inr rfl,Xkw rfl (.tmp rfl) (.tmp rfl) (List.nil_sublist _) ⟨rfl,rfl⟩⟩
end Go.Proofs.YthdldeenpgeemaaGreatDoor
namespace Go.Sx
open Go.Lx Go.Fr
abbrev wCompetition:List UInt8:=[99,111,109,112,101,116,105,116,105,111,110]
abbrev wCriterion:List UInt8:=[99,114,105,116,101,114,105,111,110]
abbrev wFrom:List UInt8:=[102,114,111,109]
abbrev wTo:List UInt8:=[116,111]
abbrev wStep:List UInt8:=[115,116,101,112]
abbrev wSum:List UInt8:=[115,117,109]
abbrev wMean:List UInt8:=[109,101,97,110]
abbrev wTrim:List UInt8:=[116,114,105,109]
abbrev wMedian:List UInt8:=[109,101,100,105,97,110]
abbrev wReverse:List UInt8:=[114,101,118,101,114,115,101]
abbrev wBonus:List UInt8:=[98,111,110,117,115]
abbrev wValue:List UInt8:=[118,97,108,117,101]
abbrev wMost:List UInt8:=[109,111,115,116]
abbrev wMalus:List UInt8:=[109,97,108,117,115]
abbrev wTie:List UInt8:=[116,105,101]
abbrev wTotal:List UInt8:=[116,111,116,97,108]
abbrev wScore:List UInt8:=[115,99,111,114,101]
abbrev wHighest:List UInt8:=[104,105,103,104,101,115,116]
abbrev wRule:List UInt8:=[114,117,108,101]
abbrev wLot:List UInt8:=[108,111,116]
abbrev wRound:List UInt8:=[114,111,117,110,100]
abbrev wPanel:List UInt8:=[112,97,110,101,108]
abbrev wQuota:List UInt8:=[113,117,111,116,97]
abbrev wOver:List UInt8:=[111,118,101,114]
abbrev wUnder:List UInt8:=[117,110,100,101,114]
abbrev wLots:List UInt8:=[108,111,116,115]
abbrev wFree:List UInt8:=[102,114,101,101]
abbrev wPlaces:List UInt8:=[112,108,97,99,101,115]
abbrev wPrizes:List UInt8:=[112,114,105,122,101,115]
abbrev wPoints:List UInt8:=[112,111,105,110,116,115]
abbrev wBest:List UInt8:=[98,101,115,116]
abbrev wLeast:List UInt8:=[108,101,97,115,116]
abbrev wGreatest:List UInt8:=[103,114,101,97,116,101,115,116]
abbrev wIf:List UInt8:=[105,102]
abbrev wUpto:List UInt8:=[117,112,116,111]
abbrev wThen:List UInt8:=[116,104,101,110]
abbrev wElse:List UInt8:=[101,108,115,101]
abbrev wEnd:List UInt8:=[101,110,100]
abbrev sSemi:List UInt8:=[59]
abbrev sComma:List UInt8:=[44]
abbrev sPlus:List UInt8:=[43]
abbrev sMinus:List UInt8:=[45]
abbrev sStar:List UInt8:=[42]
abbrev sSlash:List UInt8:=[47]
abbrev sOpen:List UInt8:=[40]
abbrev sClose:List UInt8:=[41]
abbrev wordsL:List (List UInt8):=[[99,111,109,112,101,116,105,116,105,111,110],[99,114,105,116,101,114,105,111,110],[102,114,111,109],[116,111],[115,116,101,112],[115,117,109],[109,101,97,110],[116,114,105,109],[109,101,100,105,97,110],[114,101,118,101,114,115,101],[98,111,110,117,115],[118,97,108,117,101],[109,111,115,116],[109,97,108,117,115],[116,105,101],[116,111,116,97,108],[115,99,111,114,101],[104,105,103,104,101,115,116],[114,117,108,101],[108,111,116],[114,111,117,110,100],[112,97,110,101,108],[113,117,111,116,97],[111,118,101,114],[117,110,100,101,114],[108,111,116,115],[102,114,101,101],[112,108,97,99,101,115],[112,114,105,122,101,115],[112,111,105,110,116,115],[98,101,115,116],[108,101,97,115,116],[103,114,101,97,116,101,115,116],[105,102],[117,112,116,111],[116,104,101,110],[101,108,115,101],[101,110,100]]
def Tk (s:List UInt8):Bool:=decide (s∈wordsL)
abbrev Res (α:Type):=Except (List TokD) (α×List TokD)
def bnd {α β:Type} (f:List TokD→Res α) (g:α→List TokD→Res β) (ts:List TokD):Res β:=match f ts with
 | .error e=> .error e
 | .ok (x,r)=>g x r
def ret {α:Type} (x:α) (ts:List TokD):Res α:= .ok (x,ts)
def isT (w:List UInt8):List TokD→Bool
 | t::_=>decide (t.kind≠2)&&decide (t.text=w)
 | []=>false
def isName:List TokD→Bool
 | t::_=>decide (t.kind=1)&& !Tk t.text
 | []=>false
def isNum:List TokD→Bool
 | t::_=>decide (t.kind=2)
 | []=>false
def want (w:List UInt8) (ts:List TokD):Res Unit:=if isT w ts then .ok ((),ts.tail) else .error ts
def nameP (ts:List TokD):Res (List UInt8):=match ts with
 | t::r=>if isName (t::r) then .ok (t.text,r) else .error (t::r)
 | []=> .error []
def numP (ts:List TokD):Res Int:=match ts with
 | t::r=>if isNum (t::r) then .ok (t.n,r) else .error (t::r)
 | []=> .error []
def Xqy (w:List UInt8) (ts:List TokD):Res Bool:=if isT w ts then bnd (want w) (fun _=>ret true) ts else ret false ts
def Rl (w:List UInt8):List TokD→Res (List UInt8):=bnd (want w) fun _=>nameP
def S8 (w:List UInt8):List TokD→Res Int:=bnd (want w) fun _=>numP
def R4 {σ:Type} (test:List TokD→Bool) (item:σ→List TokD→Res σ):Nat→σ→List TokD→Res σ
 | 0,s,ts=> .ok (s,ts)
 | f+1,s,ts=>if test ts then (match item s ts with
   | .error e=> .error e
   | .ok (s',r)=>R4 test item f s' r) else .ok (s,ts)
def Xcl {σ:Type} (test:List TokD→Bool) (item:σ→List TokD→Res σ) (s:σ) (ts:List TokD):Res σ:=R4 test item ts.length s ts
def S9 {α:Type} (item:List TokD→Res α) (l:List α):List TokD→Res (List α):=bnd (want sComma) fun _=>bnd item fun y=>ret (l++[y])
def Xak {α:Type} (item:List TokD→Res α):List TokD→Res (List α):=bnd item fun x=>Xcl (isT sComma) (S9 item) [x]
def Uv {α:Type} (item:List TokD→Res α) (l:List α):List TokD→Res (List α):=bnd item fun x=>bnd (want sSemi) fun _=>ret (l++[x])
def Sa {α:Type} (w:List UInt8) (item:List TokD→Res α):List TokD→Res (List α):=Xcl (isT w) (Uv item) []
def howP (ts:List TokD):Res (Int×Int):=
 if isT wSum ts then bnd (want wSum) (fun _=>ret (1,0)) ts
 else if isT wMean ts then bnd (want wMean) (fun _=>bnd (S8 wTrim) fun n=>ret (2,n)) ts
 else bnd (want wMedian) (fun _=>ret (3,0)) ts
def critB:List TokD→Res Crit:=bnd (Rl wCriterion) fun nm=>bnd (S8 wFrom) fun lo=>bnd (S8 wTo) fun hi=>bnd (S8 wStep) fun st=>bnd howP fun h=>bnd (Xqy wReverse) fun rv=>ret ⟨nm,lo,hi,st,h.1,h.2,rv⟩
def R5 (w:List UInt8):List TokD→Res ItemD:=bnd (Rl w) fun nm=>bnd (S8 wValue) fun v=>bnd (S8 wMost) fun m=>ret ⟨nm,v,m⟩
def keyP (ts:List TokD):Res KeyD:=
 if isT wTotal ts then bnd (Rl wTotal) (fun nm=>ret ⟨1,nm,0⟩) ts
 else if isT wScore ts then bnd (Rl wScore) (fun nm=>ret ⟨2,nm,0⟩) ts
 else if isT wRule ts then bnd (Rl wRule) (fun nm=>ret ⟨5,nm,0⟩) ts
 else if isT wHighest ts then bnd (want wHighest) (fun _=>ret ⟨3,[],0⟩) ts
 else if isT wBonus ts then bnd (want wBonus) (fun _=>ret ⟨4,[],0⟩) ts
 else bnd (want wLot) (fun _=>ret ⟨6,[],0⟩) ts
def tieB:List TokD→Res TieD:=bnd (Rl wTie) fun nm=>bnd (Xak keyP) fun ks=>ret ⟨nm,ks⟩
def zeroHere (ts:List TokD):Bool:=match ts with
 | t::_=>decide (t.kind=2)&&decide (t.n=0)
 | []=>false
def fracP:List TokD→Res (Int×Int):=bnd numP fun n ts=>
 if isT sSlash ts then bnd (want sSlash) (fun _ ts=>if zeroHere ts then .error ts else bnd numP (fun d=>ret (n,d)) ts) ts
 else ret (n,1) ts
def Xnv {α:Type} (ok:Bool) (f:List TokD→Res α) (ts:List TokD):Res α:=if ok then f ts else .error ts
def addT (ts:List TokD):Bool:=isT sPlus ts||isT sMinus ts
def Tt (tm:List TokD→Res Ex) (x:Ex) (ts:List TokD):Res Ex:=
 if isT sPlus ts then bnd (want sPlus) (fun _=>bnd tm fun y=>ret (.mk 6 [] 0 0 [x,y])) ts
 else bnd (want sMinus) (fun _=>bnd tm fun y=>ret (.mk 7 [] 0 0 [x,y])) ts
def Xb5 (tm:List TokD→Res Ex):List TokD→Res Ex:=bnd tm fun x=>Xcl addT (Tt tm) x
def Xcg (ex:List TokD→Res Ex) (k:Int):List TokD→Res Ex:=bnd (want sOpen) fun _=>bnd ex fun x=>bnd (want sComma) fun _=>bnd ex fun y=>bnd (want sClose) fun _=>ret (.mk k [] 0 0 [x,y])
def Vp (ok:Bool) (ex:List TokD→Res Ex) (ts:List TokD):Res Ex:=
 if isName ts then bnd nameP (fun nm=>ret (.mk 2 nm 0 0 [])) ts
 else if isT wBonus ts then bnd (want wBonus) (fun _=>ret (.mk 3 [] 0 0 [])) ts
 else if isT wMalus ts then bnd (want wMalus) (fun _=>ret (.mk 4 [] 0 0 [])) ts
 else if isT wRound ts then bnd (Rl wRound) (fun nm=>ret (.mk 5 nm 0 0 [])) ts
 else if isT wLeast ts then Xnv ok (bnd (want wLeast) fun _=>Xcg ex 9) ts
 else if isT wGreatest ts then Xnv ok (bnd (want wGreatest) fun _=>Xcg ex 10) ts
 else if isT wIf ts then Xnv ok (bnd (want wIf) fun _=>bnd ex fun a=>bnd (want wUpto) fun _=>bnd ex fun b=>bnd (want wThen) fun _=>bnd ex fun c=>bnd (want wElse) fun _=>bnd ex fun d=>bnd (want wEnd) fun _=>ret (.mk 11 [] 0 0 [a,b,c,d])) ts
 else if isT sOpen ts then Xnv ok (bnd (want sOpen) fun _=>bnd ex fun x=>bnd (want sClose) fun _=>ret x) ts
 else .error ts
def Xkm (ok:Bool) (tm ex:List TokD→Res Ex) (ts:List TokD):Res Ex:=
 if isNum ts then bnd fracP (fun q ts=>if isT sStar ts then Xnv ok (bnd (want sStar) fun _=>bnd tm fun x=>ret (.mk 8 [] q.1 q.2 [x])) ts else ret (.mk 1 [] q.1 q.2 []) ts) ts
 else Vp ok ex ts
def termN:Nat→List TokD→Res Ex
 | 0=>Xkm false (fun ts=> .error ts) (fun ts=> .error ts)
 | n+1=>Xkm true (termN n) (Xb5 (termN n))
def T4 (n:Nat):List TokD→Res Ex:=Xb5 (termN n)
def cutP (ts:List TokD):Res Int:=
 if isT wOver ts then bnd (want wOver) (fun _=>ret 1) ts
 else if isT wUnder ts then bnd (want wUnder) (fun _=>ret 2) ts
 else bnd (want wLots) (fun _=>ret 3) ts
def scoreP (ts:List TokD):Res (Bool×Ex):=
 if isT wPlaces ts then bnd (want wPlaces) (fun _=>ret (true,.mk 0 [] 0 0 [])) ts
 else bnd (want wScore) (fun _=>bnd (T4 16) fun x=>ret (false,x)) ts
def tieRefP (ts:List TokD):Res (List UInt8×Int):=
 if isT wTie ts then bnd (Rl wTie) (fun nm=>ret (nm,0)) ts else ret ([],-1) ts
def roundB:List TokD→Res RoundD:=bnd (Rl wRound) fun nm=>bnd (S8 wPanel) fun pn=>bnd (S8 wQuota) fun qt=>bnd cutP fun ct=>bnd (Xqy wFree) fun fr=>bnd scoreP fun s=>bnd tieRefP fun t=>ret ⟨nm,pn,qt,ct,s.1,fr,s.2,t.1,t.2⟩
def prizesP (ts:List TokD):Res (List Int):=
 if isT wPrizes ts then bnd (want wPrizes) (fun _=>bnd (Xak numP) fun l=>bnd (want sSemi) fun _=>ret l) ts else ret [] ts
def pointsP (ts:List TokD):Res (List Int×Int):=
 if isT wPoints ts then bnd (want wPoints) (fun _=>bnd (Xak numP) fun l=>bnd (S8 wBest) fun b=>bnd (want sSemi) fun _=>ret (l,b)) ts else ret ([],0) ts
def endP (ts:List TokD):Res Unit:=if ts=[] then .ok ((),[]) else .error ts
def rulesP:List TokD→Res RulesD:=bnd (Rl wCompetition) fun nm=>bnd (want sSemi) fun _=>bnd (Sa wCriterion critB) fun cs=>bnd (Sa wBonus (R5 wBonus)) fun bs=>bnd (Sa wMalus (R5 wMalus)) fun ms=>bnd (Sa wTie tieB) fun tis=>bnd (Sa wRound roundB) fun rs=>bnd prizesP fun pz=>bnd pointsP fun pt=>bnd endP fun _=>ret ⟨nm,cs,bs,ms,tis,rs,pz,pt.1,pt.2⟩
end Go.Sx
namespace Go.Sx
open Go.Lx Go.Fr
structure Lw {α:Type} (Q:TokD→Prop) (f:List TokD→Res α):Prop where
 ok: ∀{ts x r},f ts= .ok (x,r)→ ∃c,ts=c++r∧(∀t∈c,Q t)∧(r≠[]→ ∀z:List TokD,z.head?=r.head?→f (c++z)= .ok (x,z))
 err: ∀{ts e},f ts= .error e→ ∃c,ts=c++e∧(e≠[]→ ∀z:List TokD,z.head?=e.head?→f (c++z)= .error z)
structure Less {α:Type} (f:List TokD→Res α):Prop where
 lt: ∀{ts x r},f ts= .ok (x,r)→r.length<ts.length
def Hd (test:List TokD→Bool):Prop:= ∀a b:List TokD,a.head?=b.head?→test a=test b
variable {α β σ:Type} {Q:TokD→Prop}
theorem Xea {f:List TokD→Res α} {g:α→List TokD→Res β} {ts:List TokD} {y:β} {r:List TokD} (h:bnd f g ts= .ok (y,r)): ∃x u,f ts= .ok (x,u)∧g x u= .ok (y,r):=by
 unfold bnd at h
 cases hf:f ts with
 | error e=>rw [hf] at h;cases h
 | ok q=>obtain ⟨x,u⟩:=q;rw [hf] at h;exact ⟨x,u,rfl,h⟩
theorem Xms {f:List TokD→Res α} {g:α→List TokD→Res β} {ts:List TokD} {e:List TokD} (h:bnd f g ts= .error e):f ts= .error e∨ ∃x u,f ts= .ok (x,u)∧g x u= .error e:=by
 unfold bnd at h
 cases hf:f ts with
 | error e'=>rw [hf] at h;injection h with h;subst h;exact .inl rfl
 | ok q=>obtain ⟨x,u⟩:=q;rw [hf] at h;exact .inr ⟨x,u,rfl,h⟩
theorem We {f:List TokD→Res α} {g:α→List TokD→Res β} {ts u:List TokD} {x:α} (h:f ts= .ok (x,u)):bnd f g ts=g x u:=by unfold bnd;rw [h]
theorem Xw {f:List TokD→Res α} {g:α→List TokD→Res β} {ts e:List TokD} (h:f ts= .error e):bnd f g ts= .error e:=by unfold bnd;rw [h]
theorem Tr {c a b:List TokD} (h:a.head?=b.head?):(c++a).head?=(c++b).head?:=by cases c<;>simp [h]
theorem Xjd {c a:List TokD} (h:a≠[]):c++a≠[]:=by simp [h]
theorem Uw (w:List UInt8):Hd (isT w):=fun a b h=>by
 cases a<;>cases b
 · rfl
 · cases h
 · cases h
 · simp only [List.head?_cons,Option.some.injEq] at h;subst h;simp only [isT]
theorem hd_isName:Hd isName:=fun a b h=>by
 cases a<;>cases b
 · rfl
 · cases h
 · cases h
 · simp only [List.head?_cons,Option.some.injEq] at h;subst h;simp only [isName]
theorem hd_isNum:Hd isNum:=fun a b h=>by
 cases a<;>cases b
 · rfl
 · cases h
 · cases h
 · simp only [List.head?_cons,Option.some.injEq] at h;subst h;simp only [isNum]
theorem hd_zero:Hd zeroHere:=fun a b h=>by
 cases a<;>cases b
 · rfl
 · cases h
 · cases h
 · simp only [List.head?_cons,Option.some.injEq] at h;subst h;simp only [zeroHere]
theorem hd_add:Hd addT:=fun a b h=>by unfold addT;rw [Uw _ a b h,Uw _ a b h]
theorem Vq (x:α):Lw Q (ret x) where
 ok h:=by injection h with h;injection h with h1 h2;subst h1 h2;exact ⟨[],rfl,fun t ht=>by (cases ht),fun _ z _=>rfl⟩
 err h:=by cases h
theorem lw_fail:Lw Q (fun ts=>(.error ts:Res α)) where
 ok h:=by cases h
 err h:=by injection h with h;subst h;exact ⟨[],rfl,fun _ z _=>rfl⟩
theorem Wm {f:List TokD→Res α} {g:α→List TokD→Res β} (hf:Lw Q f) (hg: ∀x,Lw Q (g x)):Lw Q (bnd f g) where
 ok h:=by
   obtain ⟨x,u,h1,h2⟩:=Xea h
   obtain ⟨c1,rfl,q1,l1⟩:=hf.ok h1
   obtain ⟨c2,rfl,q2,l2⟩:=(hg x).ok h2
   refine ⟨c1++c2,by simp,fun t ht=>?_,fun hr z hz=>?_⟩
   · rcases List.mem_append.1 ht with ht|ht
     · exact q1 t ht
     · exact q2 t ht
   · rw [List.append_assoc,We (l1 (Xjd hr) _ (Tr hz))]
     exact l2 hr z hz
 err h:=by
   rcases Xms h with h1|⟨x,u,h1,h2⟩
   · obtain ⟨c,e,l⟩:=hf.err h1
     exact ⟨c,e,fun hr z hz=>Xw (l hr z hz)⟩
   · obtain ⟨c1,rfl,q1,l1⟩:=hf.ok h1
     obtain ⟨c2,rfl,l2⟩:=(hg x).err h2
     refine ⟨c1++c2,by simp,fun hr z hz=>?_⟩
     rw [List.append_assoc,We (l1 (Xjd hr) _ (Tr hz))]
     exact l2 hr z hz
theorem Si {test:List TokD→Bool} {f g:List TokD→Res α} (ht:Hd test) (hf:Lw Q f) (hg:Lw Q g):Lw Q (fun ts=>if test ts then f ts else g ts) where
 ok {ts x r} h:=by
   cases hb:test ts with
   | true=>
     simp only [hb,if_true] at h
     obtain ⟨c,rfl,q,l⟩:=hf.ok h
     refine ⟨c,rfl,q,fun hr z hz=>?_⟩
     have:test (c++z)=true:=(ht _ _ (Tr hz)).trans hb
     simp only [this,if_true]
     exact l hr z hz
   | false=>
     simp only [hb] at h
     obtain ⟨c,rfl,q,l⟩:=hg.ok h
     refine ⟨c,rfl,q,fun hr z hz=>?_⟩
     have:test (c++z)=false:=(ht _ _ (Tr hz)).trans hb
     simp only [this]
     exact l hr z hz
 err {ts e} h:=by
   cases hb:test ts with
   | true=>
     simp only [hb,if_true] at h
     obtain ⟨c,rfl,l⟩:=hf.err h
     refine ⟨c,rfl,fun hr z hz=>?_⟩
     have:test (c++z)=true:=(ht _ _ (Tr hz)).trans hb
     simp only [this,if_true]
     exact l hr z hz
   | false=>
     simp only [hb] at h
     obtain ⟨c,rfl,l⟩:=hg.err h
     refine ⟨c,rfl,fun hr z hz=>?_⟩
     have:test (c++z)=false:=(ht _ _ (Tr hz)).trans hb
     simp only [this]
     exact l hr z hz
theorem R6 {w:List UInt8} {ts:List TokD} (h:isT w ts=true): ∃t r,ts=t::r∧t.kind≠2∧t.text=w:=by
 cases ts with
 | nil=>cases h
 | cons t r=>
   unfold isT at h
   simp only [Bool.and_eq_true,decide_eq_true_eq] at h
   exact ⟨t,r,rfl,h.1,h.2⟩
theorem Xmt {w:List UInt8} {ts r:List TokD} {x:Unit} (h:want w ts= .ok (x,r)): ∃t,ts=t::r∧t.kind≠2∧t.text=w:=by
 unfold want at h
 by_cases hb:isT w ts=true
 · rw [if_pos hb] at h
   obtain ⟨t,r',rfl,h1,h2⟩:=R6 hb
   injection h with h;injection h with _ h;subst h
   exact ⟨t,rfl,h1,h2⟩
 · rw [if_neg hb] at h;cases h
theorem W8 {w:List UInt8} (hQ: ∀t:TokD,t.kind≠2→t.text=w→Q t):Lw Q (want w) where
 ok {ts x r} h:=by
   obtain ⟨t,rfl,h1,h2⟩:=Xmt h
   refine ⟨[t],rfl,fun u hu=>by rw [List.mem_singleton.1 hu];exact hQ t h1 h2,fun _ z _=>?_⟩
   show want w (t::z)=_
   unfold want
   rw [if_pos (by unfold isT;simp [h1,h2])];rfl
 err {ts e} h:=by
   unfold want at h
   by_cases hb:isT w ts=true
   · rw [if_pos hb] at h;cases h
   · rw [if_neg hb] at h
     injection h with h;subst h
     refine ⟨[],rfl,fun _ z hz=>?_⟩
     show want w z=_
     unfold want
     rw [if_neg (by rw [Uw w z ts hz];exact hb)]
theorem Xqh {ts r:List TokD} {x:List UInt8} (h:nameP ts= .ok (x,r)): ∃t,ts=t::r∧t.kind=1∧Tk t.text=false∧x=t.text:=by
 cases ts with
 | nil=>cases h
 | cons t u=>
   unfold nameP at h
   simp only at h
   by_cases hb:isName (t::u)=true
   · rw [if_pos hb] at h
     injection h with h;injection h with h1 h2;subst h1 h2
     unfold isName at hb
     simp only [Bool.and_eq_true,decide_eq_true_eq,Bool.not_eq_true'] at hb
     exact ⟨t,rfl,hb.1,hb.2,rfl⟩
   · rw [if_neg hb] at h;cases h
theorem Xh5 (hQ: ∀t:TokD,t.kind=1→Tk t.text=false→Q t):Lw Q nameP where
 ok {ts x r} h:=by
   obtain ⟨t,rfl,h1,h2,rfl⟩:=Xqh h
   refine ⟨[t],rfl,fun u hu=>by rw [List.mem_singleton.1 hu];exact hQ t h1 h2,fun _ z _=>?_⟩
   show nameP (t::z)=_
   unfold nameP
   simp only
   rw [if_pos (by unfold isName;simp [h1,h2])]
 err {ts e} h:=by
   cases ts with
   | nil=>injection h with h;subst h;exact ⟨[],rfl,fun hr=>absurd rfl hr⟩
   | cons t u=>
     unfold nameP at h
     simp only at h
     by_cases hb:isName (t::u)=true
     · rw [if_pos hb] at h;cases h
     · rw [if_neg hb] at h
       injection h with h;subst h
       refine ⟨[],rfl,fun _ z hz=>?_⟩
       cases z with
       | nil=>cases hz
       | cons v z=>
         simp only [List.head?_cons,Option.some.injEq] at hz;subst hz
         show nameP (v::z)=_
         unfold nameP
         simp only
         rw [if_neg (by rw [hd_isName (v::z) (v::u) rfl];exact hb)]
theorem Xri {ts r:List TokD} {x:Int} (h:numP ts= .ok (x,r)): ∃t,ts=t::r∧t.kind=2∧x=t.n:=by
 cases ts with
 | nil=>cases h
 | cons t u=>
   unfold numP at h
   simp only at h
   by_cases hb:isNum (t::u)=true
   · rw [if_pos hb] at h
     injection h with h;injection h with h1 h2;subst h1 h2
     unfold isNum at hb
     exact ⟨t,rfl,of_decide_eq_true hb,rfl⟩
   · rw [if_neg hb] at h;cases h
theorem Xeb (hQ: ∀t:TokD,t.kind=2→Q t):Lw Q numP where
 ok {ts x r} h:=by
   obtain ⟨t,rfl,h1,rfl⟩:=Xri h
   refine ⟨[t],rfl,fun u hu=>by rw [List.mem_singleton.1 hu];exact hQ t h1,fun _ z _=>?_⟩
   show numP (t::z)=_
   unfold numP
   simp only
   rw [if_pos (by unfold isNum;simp [h1])]
 err {ts e} h:=by
   cases ts with
   | nil=>injection h with h;subst h;exact ⟨[],rfl,fun hr=>absurd rfl hr⟩
   | cons t u=>
     unfold numP at h
     simp only at h
     by_cases hb:isNum (t::u)=true
     · rw [if_pos hb] at h;cases h
     · rw [if_neg hb] at h
       injection h with h;subst h
       refine ⟨[],rfl,fun _ z hz=>?_⟩
       cases z with
       | nil=>cases hz
       | cons v z=>
         simp only [List.head?_cons,Option.some.injEq] at hz;subst hz
         show numP (v::z)=_
         unfold numP
         simp only
         rw [if_neg (by rw [hd_isNum (v::z) (v::u) rfl];exact hb)]
theorem Xc7 {ok:Bool} {f:List TokD→Res α} (h:Lw Q f):Lw Q (Xnv ok f):=by cases ok;exact lw_fail;exact h
theorem Lw.len {f:List TokD→Res α} (h:Lw Q f) {ts r:List TokD} {x:α} (e:f ts= .ok (x,r)):r.length≤ts.length:=by
 obtain ⟨c,rfl,_⟩:=h.ok e;simp
theorem Xa7 (w:List UInt8):Less (want w):=⟨fun h=>by obtain ⟨t,rfl,_⟩:=Xmt h;simp⟩
theorem Xa8 {f:List TokD→Res α} {g:α→List TokD→Res β} (hf:Less f) (hg: ∀x,Lw Q (g x)):Less (bnd f g):=⟨fun h=>by
 obtain ⟨x,u,h1,h2⟩:=Xea h
 exact Nat.lt_of_le_of_lt ((hg x).len h2) (hf.lt h1)⟩
theorem Xqi {test:List TokD→Bool} {f g:List TokD→Res α} (hf:Less f) (hg:Less g):Less (fun ts=>if test ts then f ts else g ts):=⟨fun {ts x r} h=>by
 cases hb:test ts with
 | true=>simp only [hb,if_true] at h;exact hf.lt h
 | false=>simp only [hb] at h;exact hg.lt h⟩
section
variable {test:List TokD→Bool} {item:σ→List TokD→Res σ}
theorem Xgl (h0:test []=false) (hl: ∀s,Less (item s)): ∀(f g:Nat) (s:σ) (ts:List TokD),ts.length≤f→ts.length≤g→R4 test item f s ts=R4 test item g s ts
 | 0,0,_,_,_,_=>rfl
 | 0,g+1,s,ts,h,_=>by
   rw [List.length_eq_zero_iff.1 (Nat.le_zero.1 h),R4,R4,if_neg Ycb]
 | f+1,0,s,ts,_,h=>by
   rw [List.length_eq_zero_iff.1 (Nat.le_zero.1 h),R4,R4,if_neg Ycb]
 | f+1,g+1,s,ts,hf,hg=>by
   rw [R4,R4]
   by_cases hb:test ts=true
   · rw [if_pos hb,if_pos hb]
     cases he:item s ts with
     | error e=>rfl
     | ok q=>
       obtain ⟨s',r⟩:=q
       have:=(hl s).lt he
       exact Xgl h0 hl f g s' r Yan Yan
   · rw [if_neg hb,if_neg hb]
theorem Sr (h0:test []=false) (hl: ∀s,Less (item s)) (s:σ) (ts:List TokD):Xcl test item s ts=if test ts then bnd (item s) (Xcl test item) ts else ret s ts:=by
 unfold Xcl
 cases ts with
 | nil=>rw [List.length_nil,R4,if_neg Ycb];rfl
 | cons t ts=>
   rw [List.length_cons,R4]
   by_cases hb:test (t::ts)=true
   · rw [if_pos hb,if_pos hb]
     unfold bnd
     cases he:item s (t::ts) with
     | error e=>rfl
     | ok q=>
       obtain ⟨s',r⟩:=q
       have:=(hl s).lt he
       rw [List.length_cons] at this
       exact Xgl h0 hl _ _ s' r Yan Yan
   · rw [if_neg hb,if_neg hb];rfl
theorem Xmu (h0:test []=false) (ht:Hd test) (hl: ∀s,Less (item s)) (hi: ∀s,Lw Q (item s)) (s:σ):Lw Q (Xcl test item s):=by
 have key: ∀(n:Nat) (s:σ) (ts:List TokD),ts.length≤n→(∀{x r},Xcl test item s ts= .ok (x,r)→ ∃c,ts=c++r∧(∀t∈c,Q t)∧(r≠[]→ ∀z:List TokD,z.head?=r.head?→Xcl test item s (c++z)= .ok (x,z)))∧(∀{e},Xcl test item s ts= .error e→ ∃c,ts=c++e∧(e≠[]→ ∀z:List TokD,z.head?=e.head?→Xcl test item s (c++z)= .error z)):=by
   intro n
   induction n with
   | zero=>
     intro s ts hn
     rw [List.length_eq_zero_iff.1 (Nat.le_zero.1 hn),Sr h0 hl,if_neg Ycb]
     refine ⟨fun h=>?_,fun h=>by cases h⟩
     injection h with h;injection h with h1 h2;subst h1 h2
     exact ⟨[],rfl,fun t ht=>by (cases ht),fun hr=>absurd rfl hr⟩
   | succ n ih=>
     intro s ts hn
     cases hb:test ts with
     | false=>
       rw [Sr h0 hl,if_neg (by rw [hb];simp)]
       refine ⟨fun h=>?_,fun h=>by cases h⟩
       injection h with h;injection h with h1 h2;subst h1 h2
       refine ⟨[],rfl,fun t ht=>by (cases ht),fun hr z hz=>?_⟩
       show Xcl test item s z=_
       rw [Sr h0 hl,if_neg (by rw [ht z ts hz,hb];simp)];rfl
     | true=>
       rw [Sr h0 hl,if_pos hb]
       refine ⟨fun h=>?_,fun h=>?_⟩
       · obtain ⟨x1,u,h1,h2⟩:=Xea h
         have hlt:=(hl s).lt h1
         obtain ⟨c1,rfl,q1,l1⟩:=(hi s).ok h1
         obtain ⟨c2,rfl,q2,l2⟩:=(ih x1 u Yan).1 h2
         refine ⟨c1++c2,by simp,fun t ht=>?_,fun hr z hz=>?_⟩
         · rcases List.mem_append.1 ht with ht|ht
           · exact q1 t ht
           · exact q2 t ht
         · have hb2:test (c1++(c2++z))=true:=(ht _ _ (Tr (Tr hz))).trans hb
           rw [List.append_assoc,Sr h0 hl,if_pos hb2,We (l1 (Xjd hr) _ (Tr hz))]
           exact l2 hr z hz
       · rcases Xms h with h1|⟨x1,u,h1,h2⟩
         · obtain ⟨c,rfl,l⟩:=(hi s).err h1
           refine ⟨c,rfl,fun hr z hz=>?_⟩
           have hb2:test (c++z)=true:=(ht _ _ (Tr hz)).trans hb
           rw [Sr h0 hl,if_pos hb2]
           exact Xw (l hr z hz)
         · have hlt:=(hl s).lt h1
           obtain ⟨c1,rfl,q1,l1⟩:=(hi s).ok h1
           obtain ⟨c2,rfl,l2⟩:=(ih x1 u Yan).2 h2
           refine ⟨c1++c2,by simp,fun hr z hz=>?_⟩
           have hb2:test (c1++(c2++z))=true:=(ht _ _ (Tr (Tr hz))).trans hb
           rw [List.append_assoc,Sr h0 hl,if_pos hb2,We (l1 (Xjd hr) _ (Tr hz))]
           exact l2 hr z hz
 exact ⟨fun h=>(key _ s _ (Nat.le_refl _)).1 h,fun h=>(key _ s _ (Nat.le_refl _)).2 h⟩
end
end Go.Sx
namespace Go.Sx
open Go.Lx Go.Fr
def QW (Q:TokD→Prop) (w:List UInt8):Prop:= ∀t:TokD,t.kind≠2→t.text=w→Q t
def QN (Q:TokD→Prop):Prop:= ∀t:TokD,t.kind=1→Tk t.text=false→Q t
def QM (Q:TokD→Prop):Prop:= ∀t:TokD,t.kind=2→Q t
variable {α:Type} {Q:TokD→Prop}
theorem Tv {w:List UInt8} (h:QW Q w) (n:QN Q):Lw Q (Rl w):=Wm (W8 h) fun _=>Xh5 n
theorem Ub {w:List UInt8} (h:QW Q w) (m:QM Q):Lw Q (S8 w):=Wm (W8 h) fun _=>Xeb m
theorem Xfa {w:List UInt8} (h:QW Q w):Lw Q (Xqy w):=Si (Uw w) (Wm (W8 h) fun _=>Vq _) (Vq _)
theorem Q1 (w:List UInt8):Less (Rl w):=Xa8 (Q:=fun _=>True) (Xa7 w) fun _=>Xh5 fun _ _ _=>trivial
theorem Xos {item:List TokD→Res α} (h:QW Q sComma) (hi:Lw Q item) (l:List α):Lw Q (S9 item l):=Wm (W8 h) fun _=>Wm hi fun _=>Vq _
theorem Xbt {item:List TokD→Res α} (hi:Lw Q item) (l:List α):Less (S9 item l):=Xa8 (Xa7 _) fun _=>Wm hi fun _=>Vq _
theorem Xfb {item:List TokD→Res α} (h:QW Q sComma) (hi:Lw Q item):Lw Q (Xak item):=Wm hi fun _=>Xmu rfl (Uw _) (Xbt hi) (Xos h hi) _
theorem Xh6 {item:List TokD→Res α} (h:QW Q sSemi) (hi:Lw Q item) (l:List α):Lw Q (Uv item l):=Wm hi fun _=>Wm (W8 h) fun _=>Vq _
theorem T5 {item:List TokD→Res α} (hi:Less item) (l:List α):Less (Uv item l):=Xa8 (Q:=fun _=>True) hi fun _=>Wm (W8 fun _ _ _=>trivial) fun _=>Vq _
theorem Qp {item:List TokD→Res α} (w:List UInt8) (h:QW Q sSemi) (hi:Lw Q item) (hl:Less item):Lw Q (Sa w item):=Xmu rfl (Uw w) (T5 hl) (Xh6 h hi) _
theorem Xpf (m:QM Q) (h: ∀w∈[wSum,wMean,wTrim,wMedian],QW Q w):Lw Q howP:=
 Si (Uw _) (Wm (W8 (h _ Yar)) fun _=>Vq _) (Si (Uw _) (Wm (W8 (h _ Yar)) fun _=>Wm (Ub (h _ Yar) m) fun _=>Vq _) (Wm (W8 (h _ Yar)) fun _=>Vq _))
theorem Xh7 (n:QN Q) (m:QM Q) (h: ∀w∈[wCriterion,wFrom,wTo,wStep,wReverse,wSum,wMean,wTrim,wMedian],QW Q w):Lw Q critB:=
 Wm (Tv (h _ Yar) n) fun _=>Wm (Ub (h _ Yar) m) fun _=>Wm (Ub (h _ Yar) m) fun _=>Wm (Ub (h _ Yar) m) fun _=>Wm (Xpf m fun w hw=>h w (List.mem_of_mem_drop (i:=5) hw)) fun _=>Wm (Xfa (h _ Yar)) fun _=>Vq _
theorem less_crit:Less critB:=Xa8 (Q:=fun _=>True) (Q1 _) fun _=>Wm (Ub (fun _ _ _=>trivial) fun _ _=>trivial) fun _=>Wm (Ub (fun _ _ _=>trivial) fun _ _=>trivial) fun _=>Wm (Ub (fun _ _ _=>trivial) fun _ _=>trivial) fun _=>Wm (Xpf (fun _ _=>trivial) fun _ _ _ _ _=>trivial) fun _=>Wm (Xfa fun _ _ _=>trivial) fun _=>Vq _
theorem Xfc {w:List UInt8} (n:QN Q) (m:QM Q) (h: ∀v∈[w,wValue,wMost],QW Q v):Lw Q (R5 w):=
 Wm (Tv (h _ Ybn) n) fun _=>Wm (Ub (h _ Ybn) m) fun _=>Wm (Ub (h _ Ybn) m) fun _=>Vq _
theorem Xa9 (w:List UInt8):Less (R5 w):=Xa8 (Q:=fun _=>True) (Q1 _) fun _=>Wm (Ub (fun _ _ _=>trivial) fun _ _=>trivial) fun _=>Wm (Ub (fun _ _ _=>trivial) fun _ _=>trivial) fun _=>Vq _
theorem Xmv (n:QN Q) (h: ∀w∈[wTotal,wScore,wRule,wHighest,wBonus,wLot],QW Q w):Lw Q keyP:=
 Si (Uw _) (Wm (Tv (h _ Yar) n) fun _=>Vq _) (Si (Uw _) (Wm (Tv (h _ Yar) n) fun _=>Vq _) (Si (Uw _) (Wm (Tv (h _ Yar) n) fun _=>Vq _) (Si (Uw _) (Wm (W8 (h _ Yar)) fun _=>Vq _) (Si (Uw _) (Wm (W8 (h _ Yar)) fun _=>Vq _) (Wm (W8 (h _ Yar)) fun _=>Vq _)))))
theorem Xmw (n:QN Q) (hc:QW Q sComma) (ht:QW Q wTie) (h: ∀w∈[wTotal,wScore,wRule,wHighest,wBonus,wLot],QW Q w):Lw Q tieB:=
 Wm (Tv ht n) fun _=>Wm (Xfb hc (Xmv n h)) fun _=>Vq _
theorem less_tie:Less tieB:=Xa8 (Q:=fun _=>True) (Q1 _) fun _=>Wm (Xfb (fun _ _ _=>trivial) (Xmv (fun _ _ _=>trivial) fun _ _ _ _ _=>trivial)) fun _=>Vq _
theorem Xqj (m:QM Q) (h:QW Q sSlash):Lw Q fracP:=
 Wm (Xeb m) fun _=>Si (Uw _) (Wm (W8 h) fun _=>Si hd_zero lw_fail (Wm (Xeb m) fun _=>Vq _)) (Vq _)
section
variable {tm ex:List TokD→Res Ex}
theorem Xkn (p:QW Q sPlus) (m:QW Q sMinus) (ht:Lw Q tm) (x:Ex):Lw Q (Tt tm x):=Si (Uw _) (Wm (W8 p) fun _=>Wm ht fun _=>Vq _) (Wm (W8 m) fun _=>Wm ht fun _=>Vq _)
theorem Ss (ht:Lw Q tm) (x:Ex):Less (Tt tm x):=Xqi (Xa8 (Xa7 _) fun _=>Wm ht fun _=>Vq _) (Xa8 (Xa7 _) fun _=>Wm ht fun _=>Vq _)
theorem Xgm (p:QW Q sPlus) (m:QW Q sMinus) (ht:Lw Q tm):Lw Q (Xb5 tm):=Wm ht fun _=>Xmu rfl hd_add (Ss ht) (Xkn p m ht) _
theorem Xqk (h: ∀w∈[sOpen,sComma,sClose],QW Q w) (hx:Lw Q ex) (k:Int):Lw Q (Xcg ex k):=Wm (W8 (h _ Yar)) fun _=>Wm hx fun _=>Wm (W8 (h _ Yar)) fun _=>Wm hx fun _=>Wm (W8 (h _ Yar)) fun _=>Vq _
abbrev factorW:List (List UInt8):=[wBonus,wMalus,wRound,wLeast,wGreatest,wIf,wUpto,wThen,wElse,wEnd,sOpen,sComma,sClose]
theorem Xmx {ok:Bool} (n:QN Q) (h: ∀w∈factorW,QW Q w) (hx:Lw Q ex):Lw Q (Vp ok ex):=
 have hp:=fun k=>Xqk (Q:=Q) (fun w hw=>h w (List.mem_of_mem_drop (i:=10) hw)) hx k
 Si hd_isName (Wm (Xh5 n) fun _=>Vq _) (Si (Uw _) (Wm (W8 (h _ Yar)) fun _=>Vq _) (Si (Uw _) (Wm (W8 (h _ Yar)) fun _=>Vq _) (Si (Uw _) (Wm (Tv (h _ Yar) n) fun _=>Vq _)
   (Si (Uw _) (Xc7 (Wm (W8 (h _ Yar)) fun _=>hp 9)) (Si (Uw _) (Xc7 (Wm (W8 (h _ Yar)) fun _=>hp 10))
   (Si (Uw _) (Xc7 (Wm (W8 (h _ Yar)) fun _=>Wm hx fun _=>Wm (W8 (h _ Yar)) fun _=>Wm hx fun _=>Wm (W8 (h _ Yar)) fun _=>Wm hx fun _=>Wm (W8 (h _ Yar)) fun _=>Wm hx fun _=>Wm (W8 (h _ Yar)) fun _=>Vq _))
   (Si (Uw _) (Xc7 (Wm (W8 (h _ Yar)) fun _=>Wm hx fun _=>Wm (W8 (h _ Yar)) fun _=>Vq _)) lw_fail)))))))
theorem Xmy {ok:Bool} (n:QN Q) (m:QM Q) (h: ∀w∈sSlash::sStar::factorW,QW Q w) (ht:Lw Q tm) (hx:Lw Q ex):Lw Q (Xkm ok tm ex):=
 Si hd_isNum (Wm (Xqj m (h _ Yar)) fun _=>Si (Uw _) (Xc7 (Wm (W8 (h _ Yar)) fun _=>Wm ht fun _=>Vq _)) (Vq _)) (Xmx n (fun w hw=>h w (List.mem_of_mem_drop (i:=2) hw)) hx)
end
abbrev exprW:List (List UInt8):=sPlus::sMinus::sSlash::sStar::factorW
theorem Xcm (n:QN Q) (m:QM Q) (h: ∀w∈exprW,QW Q w): ∀k,Lw Q (termN k)
 | 0=>Xmy n m (fun w hw=>h w (List.mem_of_mem_drop (i:=2) hw)) lw_fail lw_fail
 | k+1=>Xmy n m (fun w hw=>h w (List.mem_of_mem_drop (i:=2) hw)) (Xcm n m h k) (Xgm (h _ Yar) (h _ Yar) (Xcm n m h k))
theorem R7 (k:Nat):Lw (fun _=>True) (termN k):=Xcm (fun _ _ _=>trivial) (fun _ _=>trivial) (fun _ _ _ _ _=>trivial) k
theorem Xje (n:QN Q) (m:QM Q) (h: ∀w∈exprW,QW Q w) (k:Nat):Lw Q (T4 k):=Xgm (h _ Yar) (h _ Yar) (Xcm n m h k)
theorem Xcn (k:Nat):Lw (fun _=>True) (T4 k):=Xje (fun _ _ _=>trivial) (fun _ _=>trivial) (fun _ _ _ _ _=>trivial) k
abbrev roundW:List (List UInt8):=[wRound,wPanel,wQuota,wOver,wUnder,wLots,wFree,wPlaces,wScore,wTie]
theorem Xmz (h: ∀w∈[wOver,wUnder,wLots],QW Q w):Lw Q cutP:=Si (Uw _) (Wm (W8 (h _ Yar)) fun _=>Vq _) (Si (Uw _) (Wm (W8 (h _ Yar)) fun _=>Vq _) (Wm (W8 (h _ Yar)) fun _=>Vq _))
theorem Xjf (n:QN Q) (m:QM Q) (hp:QW Q wPlaces) (hs:QW Q wScore) (h: ∀w∈exprW,QW Q w):Lw Q scoreP:=Si (Uw _) (Wm (W8 hp) fun _=>Vq _) (Wm (W8 hs) fun _=>Wm (Xje n m h 16) fun _=>Vq _)
theorem Xgn (n:QN Q) (h:QW Q wTie):Lw Q tieRefP:=Si (Uw _) (Wm (Tv h n) fun _=>Vq _) (Vq _)
theorem Xot (n:QN Q) (m:QM Q) (h: ∀w∈roundW,QW Q w) (hx: ∀w∈exprW,QW Q w):Lw Q roundB:=
 Wm (Tv (h _ Yar) n) fun _=>Wm (Ub (h _ Yar) m) fun _=>Wm (Ub (h _ Yar) m) fun _=>Wm (Xmz fun w hw=>h w (List.mem_of_mem_drop (i:=3) (List.mem_of_mem_take (i:=3) hw))) fun _=>Wm (Xfa (h _ Yar)) fun _=>Wm (Xjf n m (h _ Yar) (h _ Yar) hx) fun _=>Wm (Xgn n (h _ Yar)) fun _=>Vq _
theorem lw_roundT:Lw (fun _=>True) roundB:=Xot (fun _ _ _=>trivial) (fun _ _=>trivial) (fun _ _ _ _ _=>trivial) (fun _ _ _ _ _=>trivial)
theorem less_round:Less roundB:=Xa8 (Q:=fun _=>True) (Q1 _) fun _=>Wm (Ub (fun _ _ _=>trivial) fun _ _=>trivial) fun _=>Wm (Ub (fun _ _ _=>trivial) fun _ _=>trivial) fun _=>Wm (Xmz fun _ _ _ _ _=>trivial) fun _=>Wm (Xfa fun _ _ _=>trivial) fun _=>Wm (Xjf (fun _ _ _=>trivial) (fun _ _=>trivial) (fun _ _ _=>trivial) (fun _ _ _=>trivial) fun _ _ _ _ _=>trivial) fun _=>Wm (Xgn (fun _ _ _=>trivial) fun _ _ _=>trivial) fun _=>Vq _
theorem Xm0 (m:QM Q) (h: ∀w∈[wPrizes,sComma,sSemi],QW Q w):Lw Q prizesP:=Si (Uw _) (Wm (W8 (h _ Yar)) fun _=>Wm (Xfb (h _ Yar) (Xeb m)) fun _=>Wm (W8 (h _ Yar)) fun _=>Vq _) (Vq _)
theorem Xm1 (m:QM Q) (h: ∀w∈[wPoints,wBest,sComma,sSemi],QW Q w):Lw Q pointsP:=Si (Uw _) (Wm (W8 (h _ Yar)) fun _=>Wm (Xfb (h _ Yar) (Xeb m)) fun _=>Wm (Ub (h _ Yar) m) fun _=>Wm (W8 (h _ Yar)) fun _=>Vq _) (Vq _)
theorem Xrj {ts r:List TokD} {x:Unit} (h:endP ts= .ok (x,r)):ts=[]∧r=[]:=by
 unfold endP at h
 by_cases e:ts=[]
 · rw [if_pos e] at h;injection h with h;injection h with _ h;exact ⟨e,h.symm⟩
 · rw [if_neg e] at h;cases h
end Go.Sx
namespace Go.Sx
open Go.Lx Go.Fr
variable {α β σ:Type} {Q:TokD→Prop}
abbrev TT:TokD→Prop:=fun _=>True
structure Dp (f g:List TokD→Res α):Prop where
 into: ∀{ts x r},f ts= .ok (x,r)→g ts= .ok (x,r)∨ ∃e,g ts= .error e∧r.length<e.length
theorem Ra (w:List UInt8):QW TT w:=fun _ _ _=>trivial
section
variable {tm tm' ex ex':List TokD→Res Ex}
end
def Inert (z:List TokD):Prop:=isT sPlus z=false∧isT sMinus z=false∧isT sSlash z=false∧isT sStar z=false
structure Fol (f:List TokD→Res α):Prop where
 into: ∀{c x r},f (c++r)= .ok (x,r)→Inert r→ ∀z,Inert z→f (c++z)= .ok (x,z)
theorem Xm2 (z:List TokD) (h:Inert z):addT z=false:=by unfold addT;rw [h.1,h.2.1];rfl
section
variable {tm ex:List TokD→Res Ex}
theorem Xsf (w:List UInt8) (y:β):Lw TT (bnd (want w) fun _=>ret y):=Wm (W8 (Ra _)) fun _=>Vq _
end
end Go.Sx
namespace Go.Sx
open Go.Lx Go.Fr
variable {α β σ:Type} {Q:TokD→Prop}
structure Pres (h:TokD→TokD):Prop where
 kind: ∀t,(h t).kind=t.kind
 text: ∀t,(h t).text=t.text
 n: ∀t,(h t).n=t.n
def mapR (h:TokD→TokD):Res α→Res α
 | .ok (x,r)=> .ok (x,r.map h)
 | .error e=> .error (e.map h)
structure Bl (f:List TokD→Res α):Prop where
 eq: ∀{h:TokD→TokD},Pres h→ ∀ts,f (ts.map h)=mapR h (f ts)
def Bt (test:List TokD→Bool):Prop:= ∀{h:TokD→TokD},Pres h→ ∀ts:List TokD,test (ts.map h)=test ts
theorem Uz (w:List UInt8):Bt (isT w):=fun hp ts=>by
 cases ts with
 | nil=>rfl
 | cons t ts=>simp only [List.map_cons,isT,hp.kind,hp.text]
theorem bt_name:Bt isName:=fun hp ts=>by
 cases ts with
 | nil=>rfl
 | cons t ts=>simp only [List.map_cons,isName,hp.kind,hp.text]
theorem bt_num:Bt isNum:=fun hp ts=>by
 cases ts with
 | nil=>rfl
 | cons t ts=>simp only [List.map_cons,isNum,hp.kind]
theorem bt_zero:Bt zeroHere:=fun hp ts=>by
 cases ts with
 | nil=>rfl
 | cons t ts=>simp only [List.map_cons,zeroHere,hp.kind,hp.n]
theorem bt_add:Bt addT:=fun hp ts=>by simp only [addT,Uz _ hp]
theorem Ts (x:α):Bl (ret x):=⟨fun _ _=>rfl⟩
theorem bl_fail:Bl (fun ts=>(.error ts:Res α)):=⟨fun _ _=>rfl⟩
theorem W5 {f:List TokD→Res α} {g:α→List TokD→Res β} (hf:Bl f) (hg: ∀x,Bl (g x)):Bl (bnd f g):=⟨fun hp ts=>by
 unfold bnd
 rw [hf.eq hp]
 cases f ts with
 | error e=>rfl
 | ok q=>exact (hg q.1).eq hp q.2⟩
theorem Sj {test:List TokD→Bool} {f g:List TokD→Res α} (ht:Bt test) (hf:Bl f) (hg:Bl g):Bl (fun ts=>if test ts then f ts else g ts):=⟨fun hp ts=>by
 simp only [ht hp]
 cases test ts with
 | true=>exact hf.eq hp ts
 | false=>exact hg.eq hp ts⟩
theorem Uo (w:List UInt8):Bl (want w):=⟨fun hp ts=>by
 unfold want
 rw [Uz w hp]
 cases isT w ts with
 | true=>simp [mapR,List.map_tail]
 | false=>simp [mapR]⟩
theorem bl_nameP:Bl nameP:=⟨fun hp ts=>by
 cases ts with
 | nil=>rfl
 | cons t ts=>
   have:=bt_name hp (t::ts)
   simp only [List.map_cons] at this
   simp only [List.map_cons,nameP,this,hp.text]
   cases isName (t::ts)<;>simp [mapR]⟩
theorem bl_numP:Bl numP:=⟨fun hp ts=>by
 cases ts with
 | nil=>rfl
 | cons t ts=>
   have:=bt_num hp (t::ts)
   simp only [List.map_cons] at this
   simp only [List.map_cons,numP,this,hp.n]
   cases isNum (t::ts)<;>simp [mapR]⟩
theorem Xc8 {ok:Bool} {f:List TokD→Res α} (h:Bl f):Bl (Xnv ok f):=by cases ok;exact bl_fail;exact h
theorem Xm3 {test:List TokD→Bool} {item:σ→List TokD→Res σ} (ht:Bt test) (hi: ∀s,Bl (item s)) (s:σ):Bl (Xcl test item s):=⟨fun {h} hp ts=>by
 have key: ∀(f:Nat) (s:σ) (ts:List TokD),R4 test item f s (ts.map h)=mapR h (R4 test item f s ts):=by
   intro f
   induction f with
   | zero=>intro s ts;rfl
   | succ f ih=>
     intro s ts
     rw [R4,R4,ht hp]
     cases test ts with
     | false=>rfl
     | true=>
       rw [if_pos rfl,if_pos rfl,(hi s).eq hp]
       cases item s ts with
       | error e=>rfl
       | ok q=>exact ih q.1 q.2
 unfold Xcl
 rw [List.length_map]
 exact key _ _ _⟩
theorem Q2 (w:List UInt8):Bl (Rl w):=W5 (Uo w) fun _=>bl_nameP
theorem T6 (w:List UInt8):Bl (S8 w):=W5 (Uo w) fun _=>bl_numP
theorem Qq (w:List UInt8) (y:β):Bl (bnd (want w) fun _=>ret y):=W5 (Uo w) fun _=>Ts _
theorem Xm4 (w:List UInt8):Bl (Xqy w):=Sj (Uz w) (Qq _ _) (Ts _)
theorem Xh8 {item:List TokD→Res α} (hi:Bl item):Bl (Xak item):=W5 hi fun _=>Xm3 (Uz _) (fun _=>W5 (Uo _) fun _=>W5 hi fun _=>Ts _) _
theorem Xc9 {item:List TokD→Res α} (w:List UInt8) (hi:Bl item):Bl (Sa w item):=Xm3 (Uz w) (fun _=>W5 hi fun _=>W5 (Uo _) fun _=>Ts _) _
theorem bl_how:Bl howP:=Sj (Uz _) (Qq _ _) (Sj (Uz _) (W5 (Uo _) fun _=>W5 (T6 _) fun _=>Ts _) (Qq _ _))
theorem bl_crit:Bl critB:=W5 (Q2 _) fun _=>W5 (T6 _) fun _=>W5 (T6 _) fun _=>W5 (T6 _) fun _=>W5 bl_how fun _=>W5 (Xm4 _) fun _=>Ts _
theorem Xm5 (w:List UInt8):Bl (R5 w):=W5 (Q2 _) fun _=>W5 (T6 _) fun _=>W5 (T6 _) fun _=>Ts _
theorem Xm6 (w:List UInt8) (g:List UInt8→β):Bl (bnd (Rl w) fun nm=>ret (g nm)):=W5 (Q2 w) fun _=>Ts _
theorem bl_key:Bl keyP:=Sj (Uz _) (Xm6 _ _) (Sj (Uz _) (Xm6 _ _) (Sj (Uz _) (Xm6 _ _) (Sj (Uz _) (Qq _ _) (Sj (Uz _) (Qq _ _) (Qq _ _)))))
theorem bl_tie:Bl tieB:=W5 (Q2 _) fun _=>W5 (Xh8 bl_key) fun _=>Ts _
theorem bl_frac:Bl fracP:=W5 bl_numP fun _=>Sj (Uz _) (W5 (Uo _) fun _=>Sj bt_zero bl_fail (W5 bl_numP fun _=>Ts _)) (Ts _)
section
variable {tm ex:List TokD→Res Ex}
theorem Xko (ht:Bl tm) (x:Ex):Bl (Tt tm x):=Sj (Uz _) (W5 (Uo _) fun _=>W5 ht fun _=>Ts _) (W5 (Uo _) fun _=>W5 ht fun _=>Ts _)
theorem Xgo (ht:Bl tm):Bl (Xb5 tm):=W5 ht fun _=>Xm3 bt_add (Xko ht) _
theorem Xm7 (hx:Bl ex) (k:Int):Bl (Xcg ex k):=W5 (Uo _) fun _=>W5 hx fun _=>W5 (Uo _) fun _=>W5 hx fun _=>Qq _ _
theorem Xm8 {ok:Bool} (hx:Bl ex):Bl (Vp ok ex):=
 Sj bt_name (W5 bl_nameP fun _=>Ts _) (Sj (Uz _) (Qq _ _) (Sj (Uz _) (Qq _ _) (Sj (Uz _) (Xm6 _ _)
   (Sj (Uz _) (Xc8 (W5 (Uo _) fun _=>Xm7 hx 9)) (Sj (Uz _) (Xc8 (W5 (Uo _) fun _=>Xm7 hx 10))
   (Sj (Uz _) (Xc8 (W5 (Uo _) fun _=>W5 hx fun _=>W5 (Uo _) fun _=>W5 hx fun _=>W5 (Uo _) fun _=>W5 hx fun _=>W5 (Uo _) fun _=>W5 hx fun _=>Qq _ _))
   (Sj (Uz _) (Xc8 (W5 (Uo _) fun _=>W5 hx fun _=>Qq _ _)) bl_fail)))))))
theorem Xm9 {ok:Bool} (ht:Bl tm) (hx:Bl ex):Bl (Xkm ok tm ex):=
 Sj bt_num (W5 bl_frac fun _=>Sj (Uz _) (Xc8 (W5 (Uo _) fun _=>W5 ht fun _=>Ts _)) (Ts _)) (Xm8 hx)
end
theorem bl_termN: ∀n,Bl (termN n)
 | 0=>Xm9 bl_fail bl_fail
 | n+1=>Xm9 (bl_termN n) (Xgo (bl_termN n))
theorem Xou (n:Nat):Bl (T4 n):=Xgo (bl_termN n)
theorem bl_cut:Bl cutP:=Sj (Uz _) (Qq _ _) (Sj (Uz _) (Qq _ _) (Qq _ _))
theorem bl_score:Bl scoreP:=Sj (Uz _) (Qq _ _) (W5 (Uo _) fun _=>W5 (Xou 16) fun _=>Ts _)
theorem bl_tieRef:Bl tieRefP:=Sj (Uz _) (Xm6 _ _) (Ts _)
theorem bl_round:Bl roundB:=W5 (Q2 _) fun _=>W5 (T6 _) fun _=>W5 (T6 _) fun _=>W5 bl_cut fun _=>W5 (Xm4 _) fun _=>W5 bl_score fun _=>W5 bl_tieRef fun _=>Ts _
theorem bl_prizes:Bl prizesP:=Sj (Uz _) (W5 (Uo _) fun _=>W5 (Xh8 bl_numP) fun _=>Qq _ _) (Ts _)
theorem bl_points:Bl pointsP:=Sj (Uz _) (W5 (Uo _) fun _=>W5 (Xh8 bl_numP) fun _=>W5 (T6 _) fun _=>Qq _ _) (Ts _)
theorem bl_end:Bl endP:=⟨fun hp ts=>by cases ts<;>rfl⟩
theorem bl_rules:Bl rulesP:=W5 (Q2 _) fun _=>W5 (Uo _) fun _=>W5 (Xc9 _ bl_crit) fun _=>W5 (Xc9 _ (Xm5 _)) fun _=>W5 (Xc9 _ (Xm5 _)) fun _=>W5 (Xc9 _ bl_tie) fun _=>W5 (Xc9 _ bl_round) fun _=>W5 bl_prizes fun _=>W5 bl_points fun _=>W5 bl_end fun _=>Ts _
theorem Xda {ts r:List TokD} {x:RulesD} (h:rulesP ts= .ok (x,r)):r=[]:=by
 unfold rulesP at h
 iterate 9 (obtain ⟨_,_,-,h⟩:=Xea h)
 obtain ⟨_,_,h1,h⟩:=Xea h
 obtain ⟨-,rfl⟩:=Xrj h1
 injection h with h;injection h with _ h;exact h.symm
def placed:Nat→List TokD→List TokD
 | _,[]=>[]
 | p,t::l=>⟨t.kind,t.text,t.n,p⟩::placed (p+(word t).length+1) l
def bare (t:TokD):TokD:=⟨t.kind,t.text,t.n,0⟩
theorem pres_bare:Pres bare:=⟨fun _=>rfl,fun _=>rfl,fun _=>rfl⟩
theorem placed_bare: ∀(l:List TokD) (p:Nat),(placed p l).map bare=l.map bare
 | [],_=>rfl
 | t::l,p=>by rw [placed,List.map_cons,List.map_cons,placed_bare l];rfl
def off (l:List TokD) (j:Nat):Nat:=((l.take j).map fun t=>(word t).length+1).sum
theorem lex_placed: ∀(l:List TokD) (p:Nat),(∀t∈l,V7 t=true)→Sb p (joinF (l.map word))= .ok (placed p l)
 | [],_,_=>rfl
 | [t],p,h=>by
   have:=Xjh (h t Ybn) (b:=[]) (fun d r e=>by cases e) p
   rw [List.append_nil,Xco] at this
   exact this
 | t::u::l,p,h=>by
   have ih:=lex_placed (u::l) (p+(word t).length+1) fun x hx=>h x (List.mem_cons_of_mem _ hx)
   have hw:=Xjh (h t Ybn) (b:=32::joinF ((u::l).map word)) (fun d r e=>by injection e with e1 _;exact e1.symm) p
   rw [Xnj Yar,ih] at hw
   exact hw
theorem Xgp {l:List TokD} (p:Nat):(∀{x},rulesP l= .ok (x,[])→rulesP (placed p l)= .ok (x,[]))∧(∀{x},rulesP (placed p l)= .ok (x,[])→rulesP l= .ok (x,[]))∧(∀{e},rulesP (placed p l)= .error e→ ∃e',rulesP l= .error e'∧e'.length=e.length):=by
 have h1:=bl_rules.eq pres_bare l
 have h2:=bl_rules.eq pres_bare (placed p l)
 rw [placed_bare] at h2
 have h3:=h1.symm.trans h2
 refine ⟨fun {x} h=>?_,fun {x} h=>?_,fun {e} h=>?_⟩
 · rw [h] at h3
   cases hp:rulesP (placed p l) with
   | error e=>rw [hp] at h3;cases h3
   | ok q=>
     obtain ⟨y,r⟩:=q
     obtain rfl:=Xda hp
     rw [hp] at h3
     injection h3 with h3;injection h3 with h3 _;rw [h3]
 · rw [h] at h3
   cases hp:rulesP l with
   | error e=>rw [hp] at h3;cases h3
   | ok q=>
     obtain ⟨y,r⟩:=q
     obtain rfl:=Xda hp
     rw [hp] at h3
     injection h3 with h3;injection h3 with h3 _;rw [h3]
 · rw [h] at h3
   cases hp:rulesP l with
   | ok q=>obtain ⟨y,r⟩:=q;rw [hp] at h3;cases h3
   | error e'=>
     rw [hp] at h3
     injection h3 with h3
     exact ⟨e',rfl,by have:=congrArg List.length h3;simpa using this⟩
def Xgq (en:Nat) (e:List TokD):Int:=match e with
 | t::_=>t.at_
 | []=>en
def zeroR:RulesD:=⟨[],[],[],[],[],[],[],[],0⟩
def Qg (l:List TokD) (en:Nat):RulesD×Int×Int:=match rulesP l with
 | .ok (r,_)=>(r,0,0)
 | .error e=>(zeroR,Xgq en e,130)
def Xb6 (s:List UInt8):RulesD×Int×Int:=if 65536<s.length then (zeroR,0,2) else match Sb 0 s with
 | .error p=>(zeroR,p,30)
 | .ok l=>Qg l s.length
theorem Xkp {l:List TokD} (hv: ∀t∈l,V7 t=true) (hl:(joinF (l.map word)).length≤65536):Xb6 (joinF (l.map word))=Qg (placed 0 l) (joinF (l.map word)).length:=by
 unfold Xb6
 rw [if_neg Yan,lex_placed l 0 hv]
end Go.Sx
