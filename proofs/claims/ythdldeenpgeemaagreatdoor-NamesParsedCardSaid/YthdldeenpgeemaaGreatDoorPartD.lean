/- The declaration that the laws' own test of the reference uses. No program in sight. -/
import Derived.Test.YthdldeenpgeemaaGreatDoorPart7
import Derived.Test.YthdldeenpgeemaaGreatDoorPartC
import Derived.Test.YthdldeenpgeemaaGreatDoorPart9
import Derived.Test.YthdldeenpgeemaaGreatDoorPart3
import Derived.Test.YthdldeenpgeemaaGreatDoorPartB
import Derived.Test.YthdldeenpgeemaaGreatDoorPart5
set_option maxHeartbeats 4000000
set_option maxRecDepth 100000
namespace Go.Fr
open Go.RowKit Go.Kx Go.Proofs.YthdldeenpgeemaaGreatDoor
namespace RulesD
def layC:List Crit:=[⟨[97,114,116],0,10,1,1,0,false⟩,⟨[115,107,105,108,108],0,10,1,1,0,false⟩]
def layK1:List KeyD:=[⟨1,[115,107,105,108,108],0⟩,⟨2,[104,101,97,116],0⟩,⟨6,[],0⟩]
def layK2:List KeyD:=[⟨5,[102,105,114,115,116],0⟩]
def layT:List TieD:=[⟨[102,105,114,115,116],layK1⟩,⟨[115,101,99,111,110,100],layK2⟩]
def layE:List Ex:=[.mk 2 [97,114,116] 0 0 [],.mk 5 [104,101,97,116] 0 0 []]
def layR:List RoundD:=[⟨[104,101,97,116],1,3,1,false,false,.mk 2 [115,107,105,108,108] 0 0 [],[],0⟩,⟨[102,105,110,97,108],1,1,3,false,false,.mk 6 [] 0 0 layE,[115,101,99,111,110,100],0⟩]
def lay:RulesD:=⟨[99,117,112],layC,[],[],layT,layR,[],[],0⟩
def layF:RulesD:={ zero with name:=[99,117,112] }
def lay65:RulesD:={ zero with name:=[99,117,112],prizes:=List.replicate 65 0 }
def layA:RulesD:={ lay with crits:=[⟨[109,101,97,110],0,10,1,1,0,false⟩,⟨[115,107,105,108,108],0,10,1,1,0,false⟩] }
def layB:RulesD:={ lay with rounds:=[⟨[104,101,97,116],1,3,1,false,false,.mk 2 [115,107,105,108,108] 0 0 [],[110,111,110,101],0⟩,⟨[102,105,110,97,108],1,1,3,false,false,.mk 6 [] 0 0 layE,[115,101,99,111,110,100],0⟩] }
def layD:RulesD:={ lay with rounds:=[⟨[102,105,110,97,108],1,3,1,false,false,.mk 2 [115,107,105,108,108] 0 0 [],[],0⟩,⟨[102,105,110,97,108],1,1,3,false,false,.mk 6 [] 0 0 layE,[115,101,99,111,110,100],0⟩] }
theorem few_lay:lay.few=true∧zero.few=true∧layF.few=true∧lay65.few=true∧layA.few=true∧layB.few=true∧layD.few=true∧lay.resolved.few=true:=by decide +kernel
theorem res_lay:lay.resolve Vx=(lay.resolved,0)∧zero.resolve Vx=(zero,140)∧layA.resolve Vx=(zero,140)∧layB.resolve Vx=(zero,140)∧layD.resolve Vx=(zero,141)∧lay65.resolve Vx=(zero,2):=by decide +kernel
theorem chk_lay:layF.check Vx=0∧lay.resolved.check Vx=0∧lay.check Vx=140:=by decide +kernel
end RulesD
end Go.Fr
namespace Go.Proofs.YthdldeenpgeemaaGreatDoor
open Go Go.RowKit Go.Kx Go.Fr
theorem rules14_own:FnC Tryz.prog 53 [] [] (fun p loc=> ∃oa1 c1 oa2 c2,p=agg [exT [99,117,112],ex (.slice oa1 2 c1),ex (.slice none 0 0),ex (.slice none 0 0),isl eTie RulesD.layT,ex (.slice oa2 2 c2),ex (.slice none 0 0),ex (.slice none 0 0),exI .i64 0]∧loc=[vec (.slice oa2 2 c2) 54 13 2 (RulesD.layR.flatMap (W3 2)),vec (.slice oa1 2 c1) 70 7 2 (RulesD.layC.flatMap critV)]):=by
 refine X4 Tryz.func53 rfl Tryz.ntmps53 rfl fun w0 F0 out=>?_
 (repeat' (first|(apply Xy 8;refine Wj (k:=0) (E:=eKey) (t:=7) RulesD.layK1 rfl rfl rfl rfl ?_ (hc:=by decide) (hby:=by decide))|(apply Xy 11;refine Wj (k:=0) (E:=eKey) (t:=10) RulesD.layK2 rfl rfl rfl rfl ?_ (hc:=by decide) (hby:=by decide))|(apply Xy 13;refine Wj (k:=0) (E:=eTie) (t:=12) RulesD.layT rfl rfl rfl rfl ?_ (hc:=by decide) (hby:=by decide))|(apply Xy 18;refine Xc6 (k:=0) (E:=eEx 1) (t:=17) RulesD.layE rfl rfl (by repeat (first|exact Ims.nil|refine Ims.cons Im.nil ?_|refine Ims.cons (Im.refl _) ?_)) rfl ?_ (hc:=by decide) (hby:=by decide))|refine Xf ?_|refine Xb ?_|refine Xd ?_|(apply Xk;(exact Ya7);exact rfl)|refine Xz ?_|(apply Xi;exact rfl;first|(apply Wh;refine X7 ?_;intro _)|(apply Xt;refine Xq (k:=2) (l0:=[]) rfl rfl rfl ?_)|(apply X5;(first|refine Wb rfl rfl ?_|refine Wq rfl Yac ?_);intro _))))
 refine U5 (Tz (k:=0) (qs:=RulesD.layR.flatMap (W3 2)) rfl (by repeat (first|exact Ims.nil|refine Ims.cons Im.nil ?_|refine Ims.cons (Im.refl _) ?_))) ?_
 refine U5 (Tz (k:=1) (qs:=RulesD.layC.flatMap critV) rfl (by repeat (first|exact Ims.nil|refine Ims.cons Im.nil ?_|refine Ims.cons (Im.refl _) ?_))) ?_
 refine U5 (Sn (k:=0) (sz:=13) (n:=2) (c:=2) rfl rfl rfl Yar Yar).leads ?_
 refine U5 (Sn (k:=1) (sz:=7) (n:=2) (c:=2) rfl rfl rfl Yar Yar).leads ?_
 exact ⟨.inr rfl,Vk rfl (.cella (k:=2) rfl rfl rfl rfl inferInstance rfl) (.cons_cons _ (.cons_cons _ (.cons _ .slnil))) ⟨_,_,_,_,rfl,rfl⟩⟩
theorem rules14_any:FnC Tryz.prog 53 [] [] (fun p loc=>p=rul 2 RulesD.lay∧loc=[]):=by
 refine X4 Tryz.func53 rfl Tryz.ntmps53 rfl fun w0 F0 out=>?_
 (repeat' (first|(apply Xy 4;refine Wj (k:=0) (E:=eCrit) (t:=3) RulesD.layC rfl rfl rfl rfl ?_ (hc:=by decide) (hby:=by decide))|(apply Xy 8;refine Wj (k:=0) (E:=eKey) (t:=7) RulesD.layK1 rfl rfl rfl rfl ?_ (hc:=by decide) (hby:=by decide))|(apply Xy 11;refine Wj (k:=0) (E:=eKey) (t:=10) RulesD.layK2 rfl rfl rfl rfl ?_ (hc:=by decide) (hby:=by decide))|(apply Xy 13;refine Wj (k:=0) (E:=eTie) (t:=12) RulesD.layT rfl rfl rfl rfl ?_ (hc:=by decide) (hby:=by decide))|(apply Xy 18;refine Xc6 (k:=0) (E:=eEx 1) (t:=17) RulesD.layE rfl rfl (by repeat (first|exact Ims.nil|refine Ims.cons Im.nil ?_|refine Ims.cons (Im.refl _) ?_)) rfl ?_ (hc:=by decide) (hby:=by decide))|(apply Xy 21;refine Xc6 (k:=0) (E:=Vy 2) (t:=20) RulesD.layR rfl rfl (by repeat (first|exact Ims.nil|refine Ims.cons Im.nil ?_|refine Ims.cons (Im.refl _) ?_)) rfl ?_ (hc:=by decide) (hby:=by decide))|refine Xf ?_|refine Xb ?_|refine Xd ?_|(apply Xk;(exact Ya7);exact rfl)|refine Xz ?_|(apply Xi;exact rfl;first|(apply Wh;refine X7 ?_;intro _)|(apply Xt;refine Xq (k:=0) (l0:=[]) rfl rfl rfl ?_)|(apply X5;(first|refine Wb rfl rfl ?_|refine Wq rfl Yac ?_);intro _))))
 refine ⟨.inr rfl,Xer (loc':=[]) (Vk rfl (.cella (k:=0) rfl rfl rfl rfl inferInstance rfl) (List.nil_sublist _) ⟨rfl,rfl⟩) ?_ ⟨rfl,rfl⟩⟩
 exact Ims.agg (by repeat (first|exact Ims.nil|refine Ims.cons Im.nil ?_|refine Ims.cons (Im.refl _) ?_))
end Go.Proofs.YthdldeenpgeemaaGreatDoor
namespace Go.Proofs.YthdldeenpgeemaaGreatDoor
open Go Go.RowKit Go.Kx Go.Fr
def rights:Nat→Code→Code
 | 0,c=>c
 | n+1,.seq _ y=>rights n y
 | _+1,c=>c
theorem Xbl (l:List (List UInt8)) (h:onceF l=true) (s:List UInt8):Uq (Uj l l.length) s=(Ex.lookF l s).map (exI .i64):=by
 unfold Ex.lookF
 split
 · rename_i hm
   exact Xd5 l h s l.length (Nat.le_refl _) (by rw [List.take_length];exact hm)
 · rename_i hm
   exact (S3 l s l.length (Nat.le_refl _)).2 (by rw [List.take_length];exact hm)
theorem Xn5 (k:Nat):Im (agg [ex (.string .empty),ex (.slice none 0 0),ex (.slice none 0 0),ex (.slice none 0 0),ex (.slice none 0 0),ex (.slice none 0 0),ex (.slice none 0 0),ex (.slice none 0 0),ex (.int .i64 0)]) (rul k RulesD.zero):=Ims.agg (.cons (.refl _) (.cons .nil (.cons .nil (.cons .nil (.cons .nil (.cons .nil (.cons .nil (.cons .nil (.cons (.refl _) .nil)))))))))
theorem Xcu {α:Type} {l:List α} {p:α→Bool} {i:Nat} (h:i<l.length):(l.take (i+1)).all p=((l.take i).all p&&p l[i]):=by
 rw [List.take_succ_eq_append_getElem h,List.all_append];simp
theorem Xeo {α:Type} (l:List α) (f:α→α) (i:Nat) (h:i<l.length):((l.take (i+1)).map f++l.drop (i+1))=((l.take i).map f++l.drop i).set i (f l[i]):=by
 have hm:((l.take i).map f).length=i:=by simp;omega
 rw [List.take_succ_eq_append_getElem h,List.map_append,List.append_assoc,List.drop_eq_getElem_cons h,List.set_append_right _ _ Yan,hm,Nat.sub_self]
 rfl
theorem Xhc {α:Type} (l:List α) (f:α→α) (i:Nat) (h:i<l.length):((l.take i).map f++l.drop i).length=l.length:=by simp;omega
theorem Xlg {α:Type} (l:List α) (f:α→α) (i:Nat) (h:i<l.length) (h2:i<((l.take i).map f++l.drop i).length):((l.take i).map f++l.drop i)[i]=l[i]:=by
 have hm:((l.take i).map f).length=i:=by simp;omega
 rw [List.getElem_append_right Yan]
 simp only [hm,Nat.sub_self]
 simp
theorem Xlh {α:Type} {fs:α→List SP} {s:Nat} (h0: ∀a,(fs a).length=s) (l:List α) (i:Nat) (hi:i<l.length) (j m:Nat) (hjm:j+m≤s):((l.flatMap fs).drop (i * s+j)).take m=((fs l[i]).drop j).take m:=by
 rw [←List.drop_drop,Xa4 h0 l i hi,List.drop_append_of_le_length (by rw [h0];omega),List.take_append_of_le_length (by rw [List.length_drop,h0];omega)]
theorem Xli {α:Type} {fs:α→List SP} {s:Nat} (h0: ∀a,(fs a).length=s) (l:List α) (i:Nat) (hi:i<l.length) (j:Nat) (qs:List SP) (x:α) (hjm:j+qs.length≤s) (hx:Xbf (fs l[i]) j qs=fs x):Xbf (l.flatMap fs) (i * s+j) qs=(l.set i x).flatMap fs:=by
 rw [←Xgk h0 l i hi x,←hx]
 have hz:=Ud h0 l
 have h2:(i+1) * s≤l.length * s:=Nat.mul_le_mul_right _ hi
 rw [Nat.succ_mul] at h2
 have hl2:(Xbf (fs l[i]) j qs).length=s:=by rw [S6 (by rw [h0];exact hjm),h0]
 apply List.ext_getElem?
 intro m
 rw [Xci (by rw [hz];omega),Xci (by rw [hz,hl2];omega),hl2]
 by_cases hm:i * s≤m∧m<i * s+s
 · rw [if_pos hm,Xci (by rw [h0];exact hjm)]
   by_cases hm2:i * s+j≤m∧m<i * s+j+qs.length
   · rw [if_pos hm2,if_pos Yan,show m-(i * s+j)=m-i * s-j by omega]
   · rw [if_neg hm2,if_neg Yan,←Xaf h0 l i hi (m-i * s) Yan,show i * s+(m-i * s)=m by omega]
 · rw [if_neg hm,if_neg Yan]
instance {k:Nat} {c:Ex}:Scs (exV k c):=by unfold exV;infer_instance
section
variable {C:Cx} {H:Nat→Prop} {l0:List Ent} {env:Env} {loc:List Ent} {d:Nat} {dst:Option Tmp} {ty:TypeId} {pos:String} {af:Array Edge} {g:Option (Nat×Bool)} {K:Env→List Ent→Prop}
theorem Xn6 {qs:List SP} {t:TypeId} {x:Operand} {k b off T tot:Nat} {ps:List SP} {dd:TypeDesc} {sz bt:Nat} {z:Value} (hx:ev env x=some (ex (.pointer (some ⟨b,off,none⟩)))) (he:loc[k]?=some (row b T tot ps)) (hu:C.P.underlying t=some dd) [hT:TI C.P t sz bt z] (hq:(ps.drop off).take sz=qs) (hl:off+sz≤ps.length) (hH:H b:=by first|trivial|exact W7 (k:=0) rfl|exact W7 (k:=1) rfl|exact W7 (k:=2) rfl|exact W7 (k:=3) rfl|exact W7 (k:=4) rfl|exact W7 (k:=5) rfl|exact W7 (k:=6) rfl|exact W7 (k:=7) rfl) (hd:Desc.aggB dd=true:=by rfl):WT C (Xca H) ⟨dst,.load t x,ty,pos,af,g⟩ (agg qs) env loc:=
 Vl hx he hu hH hd (Nat.ble_eq_true_of_le hl) ⟨hq.symm⟩
theorem Xlj {t:TypeId} {x y:Operand} {k b off T tot sz bt:Nat} {ps qs ps':List SP} {z:Value} (hx:ev env x=some (ex (.pointer (some ⟨b,off,none⟩)))) (hy:ev env y=some (agg qs)) (he:loc[k]?=some (row b T tot ps)) (hq:Xbf ps off qs=ps') [hT:TI C.P t sz bt z] (hsz:qs.length=sz) [hs:Scs qs] (hk:K env (loc.set k (row b T tot ps'))) (ho:off+sz≤ps.length) (hH:l0.Sublist (loc.eraseIdx k):=by exact List.nil_sublist _):WO C (U6 l0) ⟨none,.store t x y,ty,pos,af,g⟩ K env loc:=by
 subst hq
 subst hsz
 exact Xq (k:=k) (qs:=qs) hx hy he (hc:=Xnq) (hs:=hs) (hT:=hT) hk ho hH
end
end Go.Proofs.YthdldeenpgeemaaGreatDoor
namespace Go.Proofs.YthdldeenpgeemaaGreatDoor
open Go Go.RowKit Go.Kx Go.Fr
theorem Xhd (k:Nat) (r:RulesD) (hf:r.few=true) (M0 M2 M3:List (List UInt8×SP)) (h0: ∀s,Uq M0 s=(Ex.lookF r.n0 s).map (exI .i64)) (h2: ∀s,Uq M2 s=(Ex.lookF r.n2 s).map (exI .i64)) (h3: ∀s,Uq M3 s=(Ex.lookF r.n3 s).map (exI .i64)) (w0:World) (F0:Nat→Prop) (out:List Ent) (b2 bl b4 b7 b17 b18:Nat) (oa2:Option Addr) (c2:Nat):
   WP ⟨Tryz.prog,w0,F0,T8 [Tab],out,218,[]⟩ (rights 16 (Tryz.f23.body.getD .skip)) (Xjk ⟨Tryz.prog,w0,F0,T8 [Tab],out,218,[]⟩ Tryz.f23 (fun p loc=>p=tup [rul k (if !r.allOk then (RulesD.zero,(140:Int)) else (r.resolved,0)).1,exI .i64 (if !r.allOk then (RulesD.zero,(140:Int)) else (r.resolved,0)).2]∧loc=[]))
     [(2,ex (.pointer (some ⟨b2,0,none⟩))),(4,fpx b4 [U0 M0]),(6,U0 M2),(7,fpx b7 [U0 M3]),(16,ex (.pointer (some ⟨bl,0,none⟩))),(17,fpx b17 [ex (Xbi bl)]),(18,fpx b18 [ex (Xbj b17 b4 b7 b18)])] [vec (.slice oa2 r.rounds.length c2) 54 13 r.rounds.length (r.rounds.flatMap (W3 k)),row bl 4 1 [exB (!r.ties.all r.tiePok)],row b2 29 9 [exT r.name,isl eCrit r.crits,isl eItem r.bonus,isl eItem r.malus,isl eTie (r.ties.map r.tieP),ex (.slice oa2 r.rounds.length c2),isl eI r.prizes,isl eI r.points,exI .i64 r.best]]:=by
 obtain ⟨hf1,hf2,hf3,hf4,hf5,hf6,hf7,hf8,hf9⟩:=Xay hf
 generalize hlo1:(!r.ties.all r.tiePok)=lo1
 (repeat' (first|refine Xf ?_|refine Xb ?_|refine Xd ?_|(apply Xk;(first|exact Xe rfl|exact Yb3|exact Yad|exact Yed);exact rfl)|refine Xp ?_))
 refine W1 (fun n:Nat=>([(2,ex (.pointer (some ⟨b2,0,none⟩))),(4,fpx b4 [U0 M0]),(6,U0 M2),(7,fpx b7 [U0 M3]),(16,ex (.pointer (some ⟨bl,0,none⟩))),(17,fpx b17 [ex (Xbi bl)]),(18,fpx b18 [ex (Xbj b17 b4 b7 b18)]),(179,exI .i64 (r.rounds.length:Int)),(180,exI .i64 (n:Int))],[vec (.slice oa2 r.rounds.length c2) 54 13 r.rounds.length (((r.rounds.take n).map r.roundP++r.rounds.drop n).flatMap (W3 k)),row bl 4 1 [exB (lo1|| !(r.rounds.take n).all r.roundPok)],row b2 29 9 [exT r.name,isl eCrit r.crits,isl eItem r.bonus,isl eItem r.malus,isl eTie (r.ties.map r.tieP),ex (.slice oa2 r.rounds.length c2),isl eI r.prizes,isl eI r.points,exI .i64 r.best]])) (fun n=>n≤r.rounds.length) (fun n=>r.rounds.length-n) 0 ?_ (Nat.zero_le _) fun n hn=>?_
 · simp only [List.take_zero,List.map_nil,List.drop_zero,List.nil_append,List.all_nil,Bool.not_true,Bool.or_false]
   exact Xg (by repeat (first|exact Xm|refine Xh rfl ?_)) (List.Sublist.refl _)
 by_cases hlt:n<r.rounds.length
 · have eL:=Xeo r.rounds r.roundP n hlt
   have hLl:=Xhc r.rounds r.roundP n hlt
   have hLi:=Xlg r.rounds r.roundP n hlt
   have eB:(lo1|| !(r.rounds.take (n+1)).all r.roundPok)=((lo1|| !(r.rounds.take n).all r.roundPok)|| !r.roundPok r.rounds[n]):=by
     rw [Xcu hlt,Bool.not_and,Bool.or_assoc]
   generalize ((r.rounds.take n).map r.roundP++r.rounds.drop n)=L at eL hLl hLi ⊢
   generalize (lo1|| !(r.rounds.take n).all r.roundPok)=lo2 at eB ⊢
   have hnL:n<L.length:=by omega
   have hLi:=hLi hnL
   generalize hyy:r.rounds[n]=y at eL eB hLi
   have hRl:(L.flatMap (W3 k)).length=L.length * 13:=Ud (fs:=W3 k) (s:=13) (fun _=>rfl) L
   have hD6:((L.flatMap (W3 k)).drop (0+n * 13+6)).take 5=exV k y.score:=by
     rw [Nat.zero_add,Xlh (fs:=W3 k) (s:=13) (fun _=>rfl) L n hnL 6 5 Yar,hLi];rfl
   have hO6:0+n * 13+6+5≤(L.flatMap (W3 k)).length:=by omega
   have hP6:Xbf (L.flatMap (W3 k)) (0+n * 13+6) (exV k (y.score.resP (Ex.lookF r.n0) (Ex.lookF r.n3)))=(L.set n { y with score:=y.score.resP (Ex.lookF r.n0) (Ex.lookF r.n3) }).flatMap (W3 k):=by
     rw [Nat.zero_add]
     exact Xli (fs:=W3 k) (s:=13) (fun _=>rfl) L n hnL 6 _ _ (by show 6+5≤13;decide) (by rw [hLi];rfl)
   refine Xag (k:=0) rfl Yan fun bR c2' hv hnc hcm=>?_
   cases hv
   (repeat' (first|(apply Vs 35;refine Stop.out ?_)|refine Xf ?_|refine Xb ?_|refine Xd ?_|(apply Xk;(first|exact Xe rfl|exact Xj rfl|exact Yb3|exact Yad|exact Yak|exact Ya6);exact rfl)|refine Xp ?_|refine Xs ?_|(refine Xo rfl (fun hb=>?_) (fun hb=>?_)<;>(repeat (first|replace hb:=X0 hb|replace hb:=X1 hb))<;>(try (exfalso;omega)))))
   have hcall:=Xl5 M0 M3 (Ex.lookF r.n0) (Ex.lookF r.n3) h0 h3 bl b17 b4 b7 b18 k y.score lo2
   refine ⟨Rc 35 (fun _:Unit=>([(25,ex (.pointer (some ⟨bR,0+n * 13,none⟩))),(2,ex (.pointer (some ⟨b2,0,none⟩))),(4,fpx b4 [U0 M0]),(6,U0 M2),(7,fpx b7 [U0 M3]),(16,ex (.pointer (some ⟨bl,0,none⟩))),(17,fpx b17 [ex (Xbi bl)]),(18,fpx b18 [ex (Xbj b17 b4 b7 b18)]),(179,exI .i64 (r.rounds.length:Int)),(180,exI .i64 (n:Int))],[row bl 4 1 [exB (lo2|| !y.score.okP (Ex.lookF r.n0) (Ex.lookF r.n3))],row bR 54 (c2 * 13) ((L.set n { y with score:=y.score.resP (Ex.lookF r.n0) (Ex.lookF r.n3) }).flatMap (W3 k)),row b2 29 9 [exT r.name,isl eCrit r.crits,isl eItem r.bonus,isl eItem r.malus,isl eTie (r.ties.map r.tieP),ex (.slice (some ⟨bR,0,none⟩) r.rounds.length c2),isl eI r.prizes,isl eI r.points,exI .i64 r.best]])) (fun _=>True) ?_ fun _ _=>?_⟩
   · skip
     (refine W9 6 rfl ?_)
     (apply Xc 0 rfl Yaa rfl Yab Xa;(exact Xe rfl);exact rfl)
     (apply Xu 1 rfl Yaa rfl Yaa Yab Xa;(exact Yb1);exact rfl)
     (apply Xc 2 rfl Yaa rfl Yab Xa;(exact Xe rfl);exact rfl)
     (apply Xc 3 rfl Yaa rfl Yab Xa;(exact Yam);exact rfl)
     (apply Xc 4 rfl Yaa rfl Yab Xa;(exact Yad);exact rfl)
     (apply Xu 5 rfl Yaa rfl Yaa Yab Xa;((apply Vu;exact Xn6 (k:=0) rfl rfl rfl (by assumption) (by assumption)));exact rfl)
     (refine Xr (H':=U6 []) 6 Yaa rfl Xa (fun h=>absurd h Yar) ?_)
     ((apply Xn;(refine Uk (vs:=[.pointer (some ⟨b17,0,none⟩),.pointer (some ⟨b4,0,none⟩),.pointer (some ⟨b7,0,none⟩),.pointer (some ⟨b18,0,none⟩)]) (caps:=[fpx b17 [ex (Xbi bl)],fpx b4 [U0 M0],fpx b7 [U0 M3],fpx b18 [ex (Xbj b17 b4 b7 b18)]]) (args:=[_]) rfl (.slot 17 rfl (fun _ _ _ h=>h.1) (.slot 4 rfl (fun _ _ _ h=>h.1) (.slot 7 rfl (fun _ _ _ h=>h.1) (.slot 18 rfl (fun _ _ _ h=>h.1) .nil)))) (.one 1 rfl .nil) Tryz.func68 rfl hcall rfl ?_;rintro _ _ ⟨rfl,rfl⟩)))
     (refine Xr (H':=fun _=>True) 7 Yaa rfl Xa (fun _ _ _=>trivial) ?_)
     ((apply V6 (H:=fun _=>True);(exact Yam);exact rfl))
     (refine Xr (H':=fun _=>True) 8 Yaa rfl Xa (fun _ _ _=>trivial) ?_)
     ((apply V6 (H:=fun _=>True);(exact Yad);exact rfl))
     (refine Xr (H':=U6 []) 9 Yaa rfl Xa (fun h=>absurd h Yar) ?_)
     ((apply Xt;refine Xlj (k:=1) (l0:=[]) rfl rfl rfl hP6 rfl ?_ hO6))
     refine X3 Yaa ?_
     exact Wc () trivial (Xg (by repeat (first|exact Xm|refine Xh rfl ?_)) (List.Sublist.refl _))
   clear hcall hD6 hO6 hP6
   have hnL1:n<(L.set n { y with score:=y.score.resP (Ex.lookF r.n0) (Ex.lookF r.n3) }).length:=by rw [List.length_set];exact hnL
   have hR1l:((L.set n { y with score:=y.score.resP (Ex.lookF r.n0) (Ex.lookF r.n3) }).flatMap (W3 k)).length=L.length * 13:=by
     rw [Ud (fs:=W3 k) (s:=13) (fun _=>rfl),List.length_set]
   have hset: ∀m:Int,((L.set n { y with score:=y.score.resP (Ex.lookF r.n0) (Ex.lookF r.n3) }).flatMap (W3 k)).set (0+n * 13+12) (exI .i64 m)=(L.set n { y with score:=y.score.resP (Ex.lookF r.n0) (Ex.lookF r.n3),tieNo:=m }).flatMap (W3 k):=fun m=>by
     rw [Nat.zero_add,Xa6 (fs:=W3 k) (s:=13) (fun _=>rfl) _ n hnL1 12 Yar (exI .i64 m) { y with score:=y.score.resP (Ex.lookF r.n0) (Ex.lookF r.n3),tieNo:=m } (by rw [List.getElem_set_self];rfl),List.set_set]
   have hR11:(((L.set n { y with score:=y.score.resP (Ex.lookF r.n0) (Ex.lookF r.n3) }).flatMap (W3 k)).set (0+n * 13+12) (exI .i64 (-1)))[0+n * 13+11]?=some (exT y.tie):=by
     rw [List.getElem?_set_ne Yan,Nat.zero_add,Xaf (fs:=W3 k) (s:=13) (fun _=>rfl) _ n hnL1 11 Yar,List.getElem_set_self];rfl
   generalize ((L.set n { y with score:=y.score.resP (Ex.lookF r.n0) (Ex.lookF r.n3) }).flatMap (W3 k))=R1 at hR1l hset hR11 ⊢
   have hO12:0+n * 13+12<R1.length:=by omega
   rw [←Xa5 hO12] at hR11
   have hO12':0+n * 13+12<(Xbf R1 (0+n * 13+12) [exI .i64 (-1)]).length:=by rw [Xa5 hO12,List.length_set];exact hO12
   by_cases ht:y.tie=[]
   · (repeat' (first|(apply W2 38;refine Stop.out ?_)|refine Xf ?_|refine Xb ?_|refine Xd ?_|(apply Xk;exact Yd6;exact rfl)|refine Xs ?_|(apply Xi;exact rfl;(apply Xt;refine Xq (k:=1) (l0:=[]) rfl rfl rfl ?_))|(refine Xo rfl (fun hb=>?_) (fun hb=>?_)<;>(repeat (first|replace hb:=X0 hb|replace hb:=X1 hb|replace hb:=Vf hb|replace hb:=Vg hb))<;>(try (exfalso;fail)))))
     all_goals (try (exfalso;simp [ht] at hb;done))
     refine ⟨n+1,by omega,by omega,?_⟩
     have e1:r.roundP y={ y with score:=y.score.resP (Ex.lookF r.n0) (Ex.lookF r.n3),tieNo:= -1 }:=by unfold RulesD.roundP;rw [if_pos ht]
     have e2:r.roundPok y=y.score.okP (Ex.lookF r.n0) (Ex.lookF r.n3):=by unfold RulesD.roundPok;simp [ht]
     rw [eL,eB,e1,←hset,e2,Xa5 hO12]
     refine (Vj (List.Perm.swap _ _ _)).trans ?_
     refine Vi (k:=0) (sz:=13) (n:=r.rounds.length) (c:=c2) rfl rfl ?_ Yar hcm ?_
     · rw [List.length_set,hR1l,hLl]
     exact Xg (by repeat (first|exact Xm|refine Xh rfl ?_)) (List.Sublist.refl _)
   · (repeat' (first|(apply W2 38;refine Stop.out ?_)|refine Xf ?_|refine Xb ?_|refine Xd ?_|(apply Xk;exact Yd6;exact rfl)|refine Xs ?_|(apply Xi;exact rfl;(apply Xt;refine Xq (k:=1) (l0:=[]) rfl rfl rfl ?_))|(refine Xo rfl (fun hb=>?_) (fun hb=>?_)<;>(repeat (first|replace hb:=X0 hb|replace hb:=X1 hb|replace hb:=Vf hb|replace hb:=Vg hb))<;>(try (exfalso;fail)))))
     all_goals (try (exfalso;simp [ht] at hb;done))
     constructor
     have hfnd:=Qz M2 y.tie (Ex.lookF r.n2 y.tie) bl (lo2|| !y.score.okP (Ex.lookF r.n0) (Ex.lookF r.n3)) (h2 _)
     refine Uy (fun _:Unit=>([(2,ex (.pointer (some ⟨b2,0,none⟩))),(4,fpx b4 [U0 M0]),(6,U0 M2),(7,fpx b7 [U0 M3]),(16,ex (.pointer (some ⟨bl,0,none⟩))),(17,fpx b17 [ex (Xbi bl)]),(18,fpx b18 [ex (Xbj b17 b4 b7 b18)]),(179,exI .i64 (r.rounds.length:Int)),(180,exI .i64 (n:Int))],[row bl 4 1 [exB ((lo2|| !y.score.okP (Ex.lookF r.n0) (Ex.lookF r.n3))||(Ex.lookF r.n2 y.tie).isNone)],row bR 54 (c2 * 13) ((Xbf R1 (0+n * 13+12) [exI .i64 (-1)]).set (0+n * 13+12) (exI .i64 ((Ex.lookF r.n2 y.tie).getD 0))),row b2 29 9 [exT r.name,isl eCrit r.crits,isl eItem r.bonus,isl eItem r.malus,isl eTie (r.ties.map r.tieP),ex (.slice (some ⟨bR,0,none⟩) r.rounds.length c2),isl eI r.prizes,isl eI r.points,exI .i64 r.best]])) (fun _=>True) ?_ fun _ _=>?_
     · skip
       (refine W9 7 rfl ?_)
       (apply Xc 0 rfl Yaa rfl Yab Xa;(exact Xe rfl);exact rfl)
       (apply Xu 1 rfl Yaa rfl Yaa Yab Xa;(exact Yb1);exact rfl)
       (apply Xc 2 rfl Yaa rfl Yab Xa;(exact Xe rfl);exact rfl)
       (apply Xc 3 rfl Yaa rfl Yab Xa;(exact Xe rfl);exact rfl)
       (apply Xc 4 rfl Yaa rfl Yab Xa;(exact Yam);exact rfl)
       (apply Xc 5 rfl Yaa rfl Yab Xa;(exact Yad);exact rfl)
       (apply Xu 6 rfl Yaa rfl Yaa Yab Xa;(exact Ya8);exact rfl)
       (refine Xr (H':=U6 []) 7 Yaa rfl Xa (fun h=>absurd h Yar) ?_)
       ((apply Xn;(refine Uk (vs:=[.pointer (some ⟨bl,0,none⟩)]) (caps:=[ex (.pointer (some ⟨bl,0,none⟩))]) (args:=[_,_]) rfl (.ex .nil) (.one 0 rfl .nil) Tryz.func67 rfl hfnd rfl ?_;rintro _ _ ⟨rfl,rfl⟩)))
       (refine Xr (H':=fun _=>True) 8 Yaa rfl Xa (fun _ _ _=>trivial) ?_)
       ((apply V6 (H:=fun _=>True);(exact Yam);exact rfl))
       (refine Xr (H':=fun _=>True) 9 Yaa rfl Xa (fun _ _ _=>trivial) ?_)
       ((apply V6 (H:=fun _=>True);(exact Yad);exact rfl))
       (refine Xr (H':=U6 []) 10 Yaa rfl Xa (fun h=>absurd h Yar) ?_)
       ((apply Xt;refine Uu (k:=1) (l0:=[]) rfl rfl rfl ?_))
       refine X3 Yaa ?_
       exact Wc () trivial (Xg (by repeat (first|exact Xm|refine Xh rfl ?_)) (List.Sublist.refl _))
     (repeat' (first|refine Xb ?_|refine Xd ?_|(apply Xk;exact Ya5;exact rfl)))
     refine ⟨n+1,by omega,by omega,?_⟩
     have e1:r.roundP y={ y with score:=y.score.resP (Ex.lookF r.n0) (Ex.lookF r.n3),tieNo:=(Ex.lookF r.n2 y.tie).getD 0 }:=by unfold RulesD.roundP;rw [if_neg ht]
     have e2:(lo2|| !r.roundPok y)=((lo2|| !y.score.okP (Ex.lookF r.n0) (Ex.lookF r.n3))||(Ex.lookF r.n2 y.tie).isNone):=by
       unfold RulesD.roundPok
       rw [decide_eq_false ht,Bool.false_or,Bool.not_and,Bool.or_assoc]
       cases Ex.lookF r.n2 y.tie<;>rfl
     rw [eL,eB,e1,←hset,e2,Xa5 hO12,List.set_set]
     refine (Vj (List.Perm.swap _ _ _)).trans ?_
     refine Vi (k:=0) (sz:=13) (n:=r.rounds.length) (c:=c2) rfl rfl ?_ Yar hcm ?_
     · rw [List.length_set,hR1l,hLl]
     exact Xg (by repeat (first|exact Xm|refine Xh rfl ?_)) (List.Sublist.refl _)
 · have hn2:n=r.rounds.length:=by omega
   subst hn2
   rw [List.take_length,List.drop_length,List.append_nil]
   have hlost:(lo1|| !r.rounds.all r.roundPok)= !r.allOk:=by rw [←hlo1,←RulesD.allPok_eq,Bool.not_and]
   rw [hlost]
   (repeat' (first|(apply Xbp 40;refine Stop.out ?_)|refine Xf ?_|refine Xb ?_|refine Xd ?_|(apply Xk;(exact Yak);exact rfl)|refine Wy ?_|(refine Xo rfl (fun hb=>?_) (fun hb=>?_)<;>(repeat (first|replace hb:=X0 hb|replace hb:=X1 hb))<;>(try (exfalso;omega)))))
   constructor
   refine Wf (Vo (j:=0) (k:=1) (i:=5) (E:=Vy k) (fs:=W3 k) (r.rounds.map r.roundP) rfl rfl rfl (List.length_map ..) rfl rfl (hby:=by show _ * 136≤_;omega)) ?_
   cases hok:r.allOk
   · (repeat' (first|refine Xf ?_|refine Xb ?_|refine Xd ?_|(apply Xk;(first|exact Xj rfl|exact Yaf|exact Yca);exact rfl)|refine Xz ?_|refine Xx rfl ?_|(apply Xi;exact rfl;(apply Xt;refine Xq (k:=1) (l0:=[]) rfl rfl rfl ?_))))
     (refine ⟨.inr rfl,Xer (loc':=[]) Yd3 ?_ ⟨rfl,rfl⟩⟩)
     exact Ims.tup (.cons (Xn5 k) (.cons (.refl _) .nil))
   · rw [←RulesD.resolvedP_eq r hok]
     (repeat' (first|refine Xf ?_|refine Xb ?_|refine Xd ?_|(apply Xk;(first|exact Xj rfl|(apply Vu;first|exact Vr (k:=0) rfl rfl rfl rfl|exact Vl (k:=1) rfl rfl rfl));exact rfl)|refine Xs ?_|refine Xz ?_|refine X2 rfl ?_|(apply Xi;exact rfl;(apply Xt;refine Xq (k:=1) (l0:=[]) rfl rfl rfl ?_))))
     (refine ⟨.inr rfl,Xer (loc':=[]) Yd3 ?_ ⟨rfl,rfl⟩⟩)
     exact Im.refl _
end Go.Proofs.YthdldeenpgeemaaGreatDoor
