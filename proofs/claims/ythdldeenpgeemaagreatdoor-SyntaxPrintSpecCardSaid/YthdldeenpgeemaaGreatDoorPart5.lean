/- Chapter 03: tokens in cells; Space, Sign, number of the specification. -/
import Derived.Test.YthdldeenpgeemaaGreatDoorPart3
import Derived.Test.YthdldeenpgeemaaGreatDoorPart4
import Derived.Test.YthdldeenpgeemaaGreatDoorProg
import Derived.Test.YthdldeenpgeemaaGreatDoorRows
import Derived.Test.YthdldeenpgeemaaGreatDoorCards
import Derived.Test.YthdldeenpgeemaaGreatDoorTie
import Derived.Shelf.Strings.OnBuilder
import Derived.Shelf.Small.Strs
import Derived.Shelf.LaysM
import Derived.Shelf.Strconv.Itoa3
import Derived.Shelf.LaysC
import Derived.Shelf.Strconv.AtoiAll
import Derived.Shelf.Strings.Search1
import Derived.Shelf.Strings.Prefix
import Derived.Shelf.Strings.Fields
import Derived.Lib.Join
import Derived.WideLaws
import Derived.LaidLaws
import Derived.ProofKit
set_option maxHeartbeats 4000000
set_option maxRecDepth 100000
namespace Go.Fr
open Go.RowKit Go.Kx Go.Lx
def Qa (t:TokD):List SP:=[exI .i64 t.kind,exT t.text,exI .i64 t.n,exI .i64 t.at_]
instance {t:TokD}:Scs (Qa t):=by unfold Qa;infer_instance
instance:LenS Qa 4:=⟨fun _=>rfl⟩
abbrev eTok:Enc TokD:=Xhh Qa 4 40
end Go.Fr
namespace Go.Proofs.YthdldeenpgeemaaGreatDoor
open Go Go.RowKit Go.Kx Go.Fr Go.Lx
theorem Sm {P:UInt8→Prop} (h: ∀n:Fin 256,P (UInt8.ofNat n.val)) (c:UInt8):P c:=by
 have:=h ⟨c.toNat,c.toNat_lt⟩
 rwa [show UInt8.ofNat c.toNat=c from UInt8.ofNat_toNat] at this
theorem Xdd (c:UInt8):Sb c=V3 c:=Sm (P:=fun c=>Sb c=V3 c) Yaa c
theorem Rn (c:UInt8):Qn c=digitB c:=Sm (P:=fun c=>Qn c=digitB c) Yaa c
theorem Xat (c:UInt8):partF c=partB c:=Sm (P:=fun c=>partF c=partB c) Yaa c
theorem Xj1 (c:UInt8):Ue c=if V3 c then 2 else if digitB c then 3 else if c=95 then 5 else if spaceB c then 1 else if Tu c then 4 else 0:=Sm (P:=fun c=>Ue c=if V3 c then 2 else if digitB c then 3 else if c=95 then 5 else if spaceB c then 1 else if Tu c then 4 else 0) Yaa c
theorem Xb3 (s:List UInt8):Xa0 s=Ru s:=by
 unfold Xa0 Ru
 cases s with
 | nil=>rfl
 | cons c s=>
   rw [show partF=partB from funext Xat,Xdd]
   simp
theorem Xgr (c:UInt8):FnC Tryz.prog 88 [exI .u8 c.toNat] [] (fun p loc=>p=exB (spaceB c)∧loc=[]):=by
 have h:spaceB c=decide (c.toNat=32∨c.toNat=9∨c.toNat=10∨c.toNat=13):=Sm (P:=fun c=>spaceB c=decide (c.toNat=32∨c.toNat=9∨c.toNat=10∨c.toNat=13)) Yaa c
 rw [h]
 refine X3 Tryz.func88 rfl Tryz.ntmps88 rfl fun w0 F0 out=>?_
 (repeat' (first|refine Xe ?_|refine Xb ?_|refine Xc ?_|(apply Xn;(first|exact Xf rfl|exact Xm rfl|exact Wd (b:=true) rfl (fun _=>rfl) (fun e=>by cases e)|exact Wd (b:=false) rfl (fun e=>by cases e) (fun _=>rfl)|exact Yar);exact rfl)|(refine Wv rfl rfl rfl rfl rfl ?_)|(apply W0;exact rfl;exact rfl;exact rfl;(first|exact Xf rfl|exact Yar);exact rfl)|refine Xw ?_|(refine Wf rfl rfl (fun hb=>?_) (fun hb=>?_)<;>(repeat (first|replace hb:=Xz hb|replace hb:=X0 hb))<;>(try (exfalso;fail)))))
 all_goals (refine ⟨.inr rfl,Vd rfl (.tmp rfl) (List.nil_sublist _) ⟨congrArg exB ?_,rfl⟩⟩)
 all_goals (rw [Bool.eq_iff_iff];simp only [decide_eq_true_eq,true_iff];omega)
theorem Xde (c:UInt8):FnC Tryz.prog 48 [exI .u8 c.toNat] [] (fun p loc=>p=exB (Tu c)∧loc=[]):=by
 have h16:signL.length=16:=rfl
 refine X3 Tryz.func48 rfl Tryz.ntmps48 rfl fun w0 F0 out=>?_
 (repeat' (first|refine Xe ?_|refine Xb ?_|refine Xc ?_|(apply Xn;(exact Xm rfl);exact rfl)|refine Xo ?_))
 refine Ws (fun i:Nat=>([(0,exI .u8 (c.toNat:Int)),(3,exT signL),(4,exI .i64 (i:Int))],[])) (fun i=>i≤signL.length∧ ∀j,(h:j<signL.length)→j<i→signL[j]≠c) (fun i=>signL.length-i) 0 ?_ ⟨Nat.zero_le _,fun j _ h=>by omega⟩ fun i hi=>?_
 · exact Xg (by repeat (first|exact Xr|refine Xl rfl ?_)) (List.Sublist.refl _)
 obtain ⟨hi,hpre⟩:=hi
 by_cases hlt:i<signL.length
 · by_cases he:signL[i]=c
   · have hv:Tu c=true:=decide_eq_true (he ▸ List.getElem_mem hlt)
     rw [hv]
     have hn:(signL[i].toNat:Int)=(c.toNat:Int):=by rw [he]
     clear hpre
     (repeat' (first|refine Xe ?_|refine Xb ?_|refine Xc ?_|(apply Xn;(first|exact Xf rfl|exact Xm rfl|exact Ycv|exact Yau|exact Ya5);exact rfl)|refine Xo ?_|refine Xs ?_|refine Xw ?_|(refine Xp rfl (fun hb=>?_) (fun hb=>?_)<;>(repeat (first|replace hb:=Xz hb|replace hb:=X0 hb))<;>(try (exfalso;first|contradiction|omega)))))
     all_goals (try (exfalso;first|contradiction|omega))
     all_goals exact ⟨.inr rfl,Vd rfl (.tmp rfl) (List.nil_sublist _) ⟨rfl,rfl⟩⟩
   · have hn: ¬(signL[i].toNat:Int)=(c.toNat:Int):=fun e=>he (UInt8.toNat_inj.1 Yan)
     have hok: ∀j,(h:j<signL.length)→j<i+1→signL[j]≠c:=fun j h hj=>by
       by_cases hji:j=i
       · subst hji;exact he
       · exact hpre j h Yan
     clear hpre
     (repeat' (first|refine Xe ?_|refine Xb ?_|refine Xc ?_|(apply Xn;(first|exact Xf rfl|exact Xm rfl|exact Yb2|exact Yau|exact Ya5);exact rfl)|refine Xo ?_|refine Xs ?_|(refine Xp rfl (fun hb=>?_) (fun hb=>?_)<;>(repeat (first|replace hb:=Xz hb|replace hb:=X0 hb))<;>(try (exfalso;first|contradiction|omega)))))
     all_goals (try (exfalso;first|contradiction|omega))
     all_goals exact ⟨i+1,⟨by omega,hok⟩,by omega,Xg (by repeat (first|exact Xr|refine Xl rfl ?_)) (List.Sublist.refl _)⟩
 · have hv:Tu c=false:=decide_eq_false fun hm=>by
     obtain ⟨j,hj,e⟩:=List.getElem_of_mem hm
     exact hpre j hj Yan e
   rw [hv]
   clear hpre
   (repeat' (first|refine Xe ?_|refine Xb ?_|refine Xc ?_|(apply Xn;(first|exact Xf rfl|exact Xm rfl|exact Yam|exact Yau);exact rfl)|refine Xw ?_|refine Wm ?_|(refine Xp rfl (fun hb=>?_) (fun hb=>?_)<;>(repeat (first|replace hb:=Xz hb|replace hb:=X0 hb))<;>(try (exfalso;omega)))))
   all_goals (try (exfalso;omega))
   exact ⟨.inr rfl,Vd rfl (.tmp rfl) (List.nil_sublist _) ⟨rfl,rfl⟩⟩
theorem Xbp (s:List UInt8) (hd: ∀c∈s,digitB c=true) (hne:s≠[]) (hmax:s.length≤65536):FnC Tryz.prog 92 [exT s] [] (fun p loc=>p=tup [exI .i64 (((Xl8 0 s).1:Nat):Int),exB (Xc1 s)]∧loc=[]):=by
 have hlen:0<s.length:=List.length_pos_iff.2 hne
 refine X3 Tryz.func92 rfl Tryz.ntmps92 rfl fun w0 F0 out=>?_
 (repeat' (first|refine Xe ?_|refine Xb ?_|refine Xc ?_|(apply Xn;(exact Xm rfl);exact rfl)|refine Xo ?_))
 refine Ws (fun x:Nat×Nat=>([(0,exT s),(4,exI .i64 (x.2:Int)),(5,exI .i64 (x.1:Int))],[])) (fun x=>x.1≤s.length∧x.2≤1099511627776∧Xl8 0 s=Xl8 x.2 (s.drop x.1)) (fun x=>s.length-x.1) (0,0) ?_ ⟨Nat.zero_le _,Nat.zero_le _,rfl⟩ fun x hx=>?_
 · exact Xg (by repeat (first|exact Xr|refine Xl rfl ?_)) (List.Sublist.refl _)
 obtain ⟨i,n⟩:=x
 obtain ⟨hi,hn,hr⟩:=hx
 simp only at hi hn hr ⊢
 by_cases hlt:i<s.length
 · have hdi:=hd _ (List.getElem_mem hlt)
   unfold digitB inR at hdi
   have hdi:=of_decide_eq_true hdi
   rw [List.drop_eq_getElem_cons hlt,Xl8] at hr
   have hsub:((s[i].toNat-48:Nat):Int)=(s[i].toNat:Int)-48:=by omega
   by_cases hb:1099511627776<10 * n+(s[i].toNat-48)
   · rw [if_pos hb] at hr
     have hnb:Xc1 s=false:=by
       have:=(numR_ok s 0 Yao).1
       rw [hr] at this
       unfold Xc1 S7
       rw [←this];rfl
     rw [hnb,hr]
     (repeat' (first|refine Xe ?_|refine Xb ?_|refine Xc ?_|(apply Xn;exact Yc6;exact rfl)|refine Xo ?_|refine Xs ?_|refine Xw ?_|(refine Xp rfl (fun hb=>?_) (fun hb=>?_)<;>(repeat (first|replace hb:=Xz hb|replace hb:=X0 hb))<;>(try (exfalso;omega)))))
     all_goals (try (exfalso;first|contradiction|omega))
     all_goals exact ⟨.inr rfl,S8 rfl (.tmp rfl) (.tmp rfl) (List.nil_sublist _) ⟨rfl,rfl⟩⟩
   · rw [if_neg hb] at hr
     (repeat' (first|refine Xe ?_|refine Xb ?_|refine Xc ?_|(apply Xn;exact Yc6;exact rfl)|refine Xo ?_|refine Xs ?_|(refine Xp rfl (fun hb=>?_) (fun hb=>?_)<;>(repeat (first|replace hb:=Xz hb|replace hb:=X0 hb))<;>(try (exfalso;omega)))))
     all_goals (try (exfalso;first|contradiction|omega))
     have e:((10 * n+(s[i].toNat-48):Nat):Int)=10 * (n:Int)+((s[i].toNat:Int)-48):=by omega
     refine ⟨(i+1,10 * n+(s[i].toNat-48)),⟨by show i+1≤_;omega,by show 10 * n+_≤_;omega,hr⟩,by show s.length-(i+1)<s.length-i;omega,?_⟩
     simp only [e]
     exact Xg (by repeat (first|exact Xr|refine Xl rfl ?_)) (List.Sublist.refl _)
 · have hie:i=s.length:=by omega
   subst hie
   rw [List.drop_length,Xl8] at hr
   have hnb:Xc1 s=(decide (s.length=1)||decide (s.head?≠some 48)):=by
     have:=(numR_ok s 0 Yao).1
     rw [hr] at this
     unfold Xc1 S7
     rw [←this];rfl
   rw [hnb,hr]
   have h0:s.head?=some s[0]:=by rw [List.head?_eq_getElem?,List.getElem?_eq_getElem hlen]
   (repeat' (first|(apply W2 8;refine Stop.out ?_)|refine Xe ?_|refine Xb ?_|refine Xc ?_|(apply Xn;(first|exact Xf rfl|exact Yam|exact Yau);exact rfl)|refine Wm ?_|(refine Xp rfl (fun hb=>?_) (fun hb=>?_)<;>(repeat (first|replace hb:=Xz hb|replace hb:=X0 hb))<;>(try (exfalso;omega)))))
   all_goals (try (exfalso;first|contradiction|omega))
   refine ⟨Xe ?_⟩
   (refine Wt 11 rfl ?_)
   all_goals ((apply Xd 0 rfl Yaa rfl Yab Xa;(exact Xf rfl);exact rfl))
   all_goals ((apply Xd 1 rfl Yaa rfl Yab Xa;(exact Xf rfl);exact rfl))
   all_goals ((apply Xd 2 rfl Yaa rfl Yab Xa;(exact Yau);exact rfl))
   all_goals ((apply Xd 3 rfl Yaa rfl Yab Xa;(exact Yar);exact rfl))
   all_goals ((apply Xd 4 rfl Yaa rfl Yab Xa;(exact Xf rfl);exact rfl))
   all_goals (first|(refine So 26 rfl (fun hb=>?_) (fun hb=>?_)<;>(repeat (first|replace hb:=Xz hb|replace hb:=X0 hb|replace hb:=W5 hb|replace hb:=W6 hb))<;>(try (exfalso;first|(cases hb;done)|contradiction|omega)))|skip)
   all_goals (first|(refine Vz 5 rfl Yaa rfl Yab rfl rfl rfl rfl rfl ?_)|(apply Xd 5 rfl Yaa rfl Yab (W1 rfl rfl rfl);(exact Xf rfl);exact rfl))
   all_goals (first|(refine Vz 6 rfl Yaa rfl Yab rfl rfl rfl rfl rfl ?_)|(apply Xd 6 rfl Yaa rfl Yab (W1 rfl rfl rfl);(exact Ya5);exact rfl))
   all_goals (first|(refine Vz 7 rfl Yaa rfl Yab rfl rfl rfl rfl rfl ?_)|(apply Xd 7 rfl Yaa rfl Yab (W1 rfl rfl rfl);(exact Ybo);exact rfl))
   all_goals ((apply Xd 8 rfl Yaa rfl Yab Xa;(first|exact Wd (b:=true) rfl (fun _=>rfl) (fun e=>by cases e)|exact Wd (b:=false) rfl (fun e=>by cases e) (fun _=>rfl));exact rfl))
   all_goals ((apply Xd 9 rfl Yaa rfl Yab Xa;(exact Xm rfl);exact rfl))
   all_goals ((apply Xd 10 rfl Yaa rfl Yab Xa;(exact Xm rfl);exact rfl))
   all_goals (refine X9 Yaa ?_)
   all_goals ((repeat' (refine Xw ?_)))
   all_goals (refine ⟨.inr rfl,S8 rfl (.tmp rfl) (.tmp rfl) (List.nil_sublist _) ⟨?_,rfl⟩⟩)
   · rw [decide_eq_true Yan];rfl
   · rw [decide_eq_false (show ¬s.length=1 by omega),Bool.false_or]
     have e:(!decide ((s[0].toNat:Int)=48))=decide (s.head?≠some 48):=by
       rw [h0]
       have h1:s[0]=48↔(s[0].toNat:Int)=48:=⟨fun h=>by rw [h];rfl,fun h=>UInt8.toNat_inj.1 (show s[0].toNat=48 by omega)⟩
       by_cases h2:s[0]=48
       · rw [decide_eq_true (h1.1 h2),decide_eq_false (by simp [h2])];rfl
       · rw [decide_eq_false (fun h=>h2 (h1.2 h)),decide_eq_true Yeh];rfl
     rw [e]
end Go.Proofs.YthdldeenpgeemaaGreatDoor
namespace Go.Proofs.YthdldeenpgeemaaGreatDoor
open Go Go.RowKit Go.Kx Go.Fr Go.Lx
theorem Xgs (t:TokD):FnC Tryz.prog 18 [agg (Qa t)] [] (fun p loc=>p=exB (V0 t)∧loc=[]):=by
 unfold Qa
 have hv:V0 t=if t.kind=1 then Ru t.text&&decide (t.n=0) else if t.kind=2 then decide (t.text=[])&&decide (0≤t.n∧t.n≤1099511627776) else if t.kind=3 then decide (t.text.length=1)&&(((t.text.head?).map Tu).getD false&&decide (t.n=0)) else false:=rfl
 rw [hv]
 clear hv
 have hnm:=Xbj t.text
 rw [Xb3] at hnm
 refine X3 Tryz.func18 rfl Tryz.ntmps18 rfl fun w0 F0 out=>?_
 (repeat' (first|(apply Xkk 1;refine Stop.out ?_)|refine Xe ?_|refine Xb ?_|refine Xc ?_|(apply Xn;(exact Xm rfl);exact rfl)|(apply Xh;exact rfl;(apply Vp;refine W4 rfl ?_;intro _))))
 refine ⟨X7 (Vq (k:=0) (t:=1) rfl rfl) ?_⟩
 by_cases h1:t.kind=1
 · rw [if_pos h1]
   generalize Ru t.text=nb at hnm ⊢
   cases nb
   · (repeat' (first|refine Xe ?_|refine Xb ?_|refine Xc ?_|(apply Xn;exact Yeq;exact rfl)|(refine Wv rfl rfl rfl rfl rfl ?_)|refine Xo ?_|refine Xw ?_|(apply Xh;exact rfl;(apply Xi;(refine Xq Tryz.func47 rfl hnm rfl ?_;rintro _ _ ⟨rfl,rfl⟩)))|(refine Xp rfl (fun hb=>?_) (fun hb=>?_)<;>(repeat (first|replace hb:=Xz hb|replace hb:=X0 hb))<;>(try (exfalso;contradiction)))))
     all_goals (try (exfalso;first|contradiction|omega))
     all_goals exact ⟨.inr rfl,Vd rfl (.tmp rfl) (List.nil_sublist _) ⟨rfl,rfl⟩⟩
   · rw [Bool.true_and]
     (repeat' (first|refine Xe ?_|refine Xb ?_|refine Xc ?_|(apply Xn;exact Yes;exact rfl)|(apply W0;exact rfl;exact rfl;exact rfl;(first|exact Yag|exact Yae|exact Yar);exact rfl)|refine Xo ?_|refine Xw ?_|(apply Xh;exact rfl;(apply Xi;(refine Xq Tryz.func47 rfl hnm rfl ?_;rintro _ _ ⟨rfl,rfl⟩)))|(refine Xp rfl (fun hb=>?_) (fun hb=>?_)<;>(repeat (first|replace hb:=Xz hb|replace hb:=X0 hb))<;>(try (exfalso;contradiction)))))
     all_goals (try (exfalso;first|contradiction|omega))
     all_goals exact ⟨.inr rfl,Vd rfl (.tmp rfl) (List.nil_sublist _) ⟨rfl,rfl⟩⟩
 rw [if_neg h1]
 by_cases h2:t.kind=2
 · rw [if_pos h2]
   (repeat' (first|refine Xe ?_|refine Xb ?_|refine Xc ?_|(apply Xn;exact Ycz;exact rfl)|(refine Wv rfl rfl rfl rfl rfl ?_)|(apply W0;exact rfl;exact rfl;exact rfl;(first|exact Yag|exact Yae|exact Ye5);exact rfl)|refine Xo ?_|refine Xw ?_|(refine Wf rfl rfl (fun hb=>?_) (fun hb=>?_)<;>(repeat (first|replace hb:=Xz hb|replace hb:=X0 hb))<;>(try (exfalso;fail)))|(refine Xp rfl (fun hb=>?_) (fun hb=>?_)<;>(repeat (first|replace hb:=Xz hb|replace hb:=X0 hb))<;>(try (exfalso;contradiction)))))
   all_goals (try (exfalso;first|contradiction|omega))
   all_goals (refine ⟨.inr rfl,Vd rfl (.tmp rfl) (List.nil_sublist _) ⟨congrArg exB ?_,rfl⟩⟩)
   all_goals (first|(rw [decide_eq_true (p:=t.text=[]) Yaq,Bool.true_and];first|exact decide_eq_decide.2 Yan|exact (decide_eq_false Yan).symm)|(rw [decide_eq_false (p:=t.text=[]) Yaq];rfl))
 rw [if_neg h2]
 by_cases h3:t.kind=3
 · rw [if_pos h3]
   by_cases hl:t.text.length=1
   · rw [decide_eq_true hl,Bool.true_and]
     have hd:t.text.head?=some t.text[0]:=by rw [List.head?_eq_getElem?,List.getElem?_eq_getElem Yan]
     rw [hd]
     have hsg:=Xde t.text[0]
     rw [Option.map_some,Option.getD_some]
     generalize Tu t.text[0]=sb at hsg ⊢
     cases sb
     · (repeat' (first|refine Xe ?_|refine Xb ?_|refine Xc ?_|(apply Xn;exact Yda;exact rfl)|(refine Wv rfl rfl rfl rfl rfl ?_)|(apply W0;exact rfl;exact rfl;exact rfl;(first|exact Yag|exact Yae|exact Ya5);exact rfl)|refine Xo ?_|refine Xw ?_|(apply Vm;exact rfl;exact rfl;exact rfl;exact rfl;(apply Xi;(refine Xq Tryz.func48 rfl hsg rfl ?_;rintro _ _ ⟨rfl,rfl⟩)))|(refine Wf rfl rfl (fun hb=>?_) (fun hb=>?_)<;>(repeat (first|replace hb:=Xz hb|replace hb:=X0 hb))<;>(try (exfalso;omega)))|(refine Xp rfl (fun hb=>?_) (fun hb=>?_)<;>(repeat (first|replace hb:=Xz hb|replace hb:=X0 hb))<;>(try (exfalso;contradiction)))))
       all_goals (try (exfalso;first|contradiction|omega))
       all_goals exact ⟨.inr rfl,Vd rfl (.tmp rfl) (List.nil_sublist _) ⟨rfl,rfl⟩⟩
     · rw [Bool.true_and]
       (repeat' (first|refine Xe ?_|refine Xb ?_|refine Xc ?_|(apply Xn;exact Yed;exact rfl)|(apply W0;exact rfl;exact rfl;exact rfl;(first|exact Yag|exact Yae|exact Yar|exact Ya5);exact rfl)|refine Xo ?_|refine Xw ?_|(apply Vm;exact rfl;exact rfl;exact rfl;exact rfl;(apply Xi;(refine Xq Tryz.func48 rfl hsg rfl ?_;rintro _ _ ⟨rfl,rfl⟩)))|(refine Wf rfl rfl (fun hb=>?_) (fun hb=>?_)<;>(repeat (first|replace hb:=Xz hb|replace hb:=X0 hb))<;>(try (exfalso;omega)))|(refine Xp rfl (fun hb=>?_) (fun hb=>?_)<;>(repeat (first|replace hb:=Xz hb|replace hb:=X0 hb))<;>(try (exfalso;contradiction)))))
       all_goals (try (exfalso;first|contradiction|omega))
       all_goals exact ⟨.inr rfl,Vd rfl (.tmp rfl) (List.nil_sublist _) ⟨rfl,rfl⟩⟩
   · rw [decide_eq_false hl,Bool.false_and]
     (repeat' (first|refine Xe ?_|refine Xb ?_|refine Xc ?_|(apply Xn;exact Yec;exact rfl)|(refine Wv rfl rfl rfl rfl rfl ?_)|refine Xo ?_|refine Xw ?_|(refine Wf rfl rfl (fun hb=>?_) (fun hb=>?_)<;>(repeat (first|replace hb:=Xz hb|replace hb:=X0 hb))<;>(try (exfalso;omega)))|(refine Xp rfl (fun hb=>?_) (fun hb=>?_)<;>(repeat (first|replace hb:=Xz hb|replace hb:=X0 hb))<;>(try (exfalso;contradiction)))))
     all_goals (try (exfalso;first|contradiction|omega))
     all_goals exact ⟨.inr rfl,Vd rfl (.tmp rfl) (List.nil_sublist _) ⟨rfl,rfl⟩⟩
 · rw [if_neg h3]
   (repeat' (first|refine Xe ?_|refine Xb ?_|refine Xc ?_|(apply Xn;exact Ybu;exact rfl)|refine Xo ?_|refine Xs ?_|refine Xw ?_|(refine Xp rfl (fun hb=>?_) (fun hb=>?_)<;>(repeat (first|replace hb:=Xz hb|replace hb:=X0 hb))<;>(try (exfalso;contradiction)))))
   all_goals (try (exfalso;first|contradiction|omega))
   all_goals exact ⟨.inr rfl,Vd rfl (.tmp rfl) (List.nil_sublist _) ⟨rfl,rfl⟩⟩
theorem Xfe (t:TokD):FnC Tryz.prog 49 [agg (Qa t)] [] (fun p loc=>p=exB (V0 t)∧loc=[]):=by
 unfold Qa
 have hv:V0 t=if t.kind=1 then Ru t.text&&decide (t.n=0) else if t.kind=2 then decide (t.text=[])&&decide (0≤t.n∧t.n≤1099511627776) else if t.kind=3 then decide (t.text.length=1)&&(((t.text.head?).map Tu).getD false&&decide (t.n=0)) else false:=rfl
 rw [hv]
 clear hv
 have hnm:=Xni t.text
 rw [Xb3] at hnm
 refine X3 Tryz.func49 rfl Tryz.ntmps49 rfl fun w0 F0 out=>?_
 (repeat' (first|(apply Xkk 1;refine Stop.out ?_)|refine Xe ?_|refine Xb ?_|refine Xc ?_|(apply Xn;(exact Xm rfl);exact rfl)|(apply Xh;exact rfl;(apply Vp;refine W4 rfl ?_;intro _))))
 refine ⟨X7 (Vq (k:=0) (t:=1) rfl rfl) ?_⟩
 by_cases h1:t.kind=1
 · rw [if_pos h1]
   generalize Ru t.text=nb at hnm ⊢
   cases nb
   · (repeat' (first|refine Xe ?_|refine Xb ?_|refine Xc ?_|(apply Xn;exact Yeq;exact rfl)|(refine Wv rfl rfl rfl rfl rfl ?_)|refine Xo ?_|refine Xw ?_|(apply Xh;exact rfl;(apply Xi;(refine Xq Tryz.func130 rfl hnm rfl ?_;rintro _ _ ⟨rfl,rfl⟩)))|(refine Xp rfl (fun hb=>?_) (fun hb=>?_)<;>(repeat (first|replace hb:=Xz hb|replace hb:=X0 hb))<;>(try (exfalso;contradiction)))))
     all_goals (try (exfalso;first|contradiction|omega))
     all_goals exact ⟨.inr rfl,Vd rfl (.tmp rfl) (List.nil_sublist _) ⟨rfl,rfl⟩⟩
   · rw [Bool.true_and]
     (repeat' (first|refine Xe ?_|refine Xb ?_|refine Xc ?_|(apply Xn;exact Yes;exact rfl)|(apply W0;exact rfl;exact rfl;exact rfl;(first|exact Yag|exact Yae|exact Yar);exact rfl)|refine Xo ?_|refine Xw ?_|(apply Xh;exact rfl;(apply Xi;(refine Xq Tryz.func130 rfl hnm rfl ?_;rintro _ _ ⟨rfl,rfl⟩)))|(refine Xp rfl (fun hb=>?_) (fun hb=>?_)<;>(repeat (first|replace hb:=Xz hb|replace hb:=X0 hb))<;>(try (exfalso;contradiction)))))
     all_goals (try (exfalso;first|contradiction|omega))
     all_goals exact ⟨.inr rfl,Vd rfl (.tmp rfl) (List.nil_sublist _) ⟨rfl,rfl⟩⟩
 rw [if_neg h1]
 by_cases h2:t.kind=2
 · rw [if_pos h2]
   (repeat' (first|refine Xe ?_|refine Xb ?_|refine Xc ?_|(apply Xn;exact Ycz;exact rfl)|(refine Wv rfl rfl rfl rfl rfl ?_)|(apply W0;exact rfl;exact rfl;exact rfl;(first|exact Yag|exact Yae|exact Ye5);exact rfl)|refine Xo ?_|refine Xw ?_|(refine Wf rfl rfl (fun hb=>?_) (fun hb=>?_)<;>(repeat (first|replace hb:=Xz hb|replace hb:=X0 hb))<;>(try (exfalso;fail)))|(refine Xp rfl (fun hb=>?_) (fun hb=>?_)<;>(repeat (first|replace hb:=Xz hb|replace hb:=X0 hb))<;>(try (exfalso;contradiction)))))
   all_goals (try (exfalso;first|contradiction|omega))
   all_goals (refine ⟨.inr rfl,Vd rfl (.tmp rfl) (List.nil_sublist _) ⟨congrArg exB ?_,rfl⟩⟩)
   all_goals (first|(rw [decide_eq_true (p:=t.text=[]) Yaq,Bool.true_and];first|exact decide_eq_decide.2 Yan|exact (decide_eq_false Yan).symm)|(rw [decide_eq_false (p:=t.text=[]) Yaq];rfl))
 rw [if_neg h2]
 by_cases h3:t.kind=3
 · rw [if_pos h3]
   by_cases hl:t.text.length=1
   · rw [decide_eq_true hl,Bool.true_and]
     have hd:t.text.head?=some t.text[0]:=by rw [List.head?_eq_getElem?,List.getElem?_eq_getElem Yan]
     rw [hd]
     have hcs:=Sh t.text[0]
     have hc4:Ue t.text[0]=4↔Tu t.text[0]=true:=Sm (P:=fun c=>Ue c=4↔Tu c=true) Yaa _
     rw [Option.map_some,Option.getD_some]
     generalize Ue t.text[0]=cf at hcs hc4
     generalize Tu t.text[0]=sb at hc4 ⊢
     cases sb
     · have hn4: ¬cf=4:=fun e=>by have:=hc4.1 e;cases this
       (repeat' (first|refine Xe ?_|refine Xb ?_|refine Xc ?_|(apply Xn;exact Yda;exact rfl)|(refine Wv rfl rfl rfl rfl rfl ?_)|(apply W0;exact rfl;exact rfl;exact rfl;(first|exact Yag|exact Yae|exact Yar|exact Ya5);exact rfl)|refine Xo ?_|refine Xw ?_|(apply Vm;exact rfl;exact rfl;exact rfl;exact rfl;(apply Xi;(refine Xq Tryz.func46 rfl hcs rfl ?_;rintro _ _ ⟨rfl,rfl⟩)))|(refine Wf rfl rfl (fun hb=>?_) (fun hb=>?_)<;>(repeat (first|replace hb:=Xz hb|replace hb:=X0 hb))<;>(try (exfalso;first|contradiction|omega)))|(refine Xp rfl (fun hb=>?_) (fun hb=>?_)<;>(repeat (first|replace hb:=Xz hb|replace hb:=X0 hb))<;>(try (exfalso;contradiction)))))
       all_goals (try (exfalso;first|contradiction|omega))
       all_goals exact ⟨.inr rfl,Vd rfl (.tmp rfl) (List.nil_sublist _) ⟨rfl,rfl⟩⟩
     · have h4:cf=4:=hc4.2 rfl
       rw [Bool.true_and]
       (repeat' (first|refine Xe ?_|refine Xb ?_|refine Xc ?_|(apply Xn;exact Yed;exact rfl)|(apply W0;exact rfl;exact rfl;exact rfl;(first|exact Yag|exact Yae|exact Yar|exact Ya5);exact rfl)|refine Xo ?_|refine Xw ?_|(apply Vm;exact rfl;exact rfl;exact rfl;exact rfl;(apply Xi;(refine Xq Tryz.func46 rfl hcs rfl ?_;rintro _ _ ⟨rfl,rfl⟩)))|(refine Wf rfl rfl (fun hb=>?_) (fun hb=>?_)<;>(repeat (first|replace hb:=Xz hb|replace hb:=X0 hb))<;>(try (exfalso;first|contradiction|omega)))|(refine Xp rfl (fun hb=>?_) (fun hb=>?_)<;>(repeat (first|replace hb:=Xz hb|replace hb:=X0 hb))<;>(try (exfalso;contradiction)))))
       all_goals (try (exfalso;first|contradiction|omega))
       all_goals exact ⟨.inr rfl,Vd rfl (.tmp rfl) (List.nil_sublist _) ⟨rfl,rfl⟩⟩
   · rw [decide_eq_false hl,Bool.false_and]
     (repeat' (first|refine Xe ?_|refine Xb ?_|refine Xc ?_|(apply Xn;exact Yec;exact rfl)|(refine Wv rfl rfl rfl rfl rfl ?_)|refine Xo ?_|refine Xw ?_|(refine Wf rfl rfl (fun hb=>?_) (fun hb=>?_)<;>(repeat (first|replace hb:=Xz hb|replace hb:=X0 hb))<;>(try (exfalso;omega)))|(refine Xp rfl (fun hb=>?_) (fun hb=>?_)<;>(repeat (first|replace hb:=Xz hb|replace hb:=X0 hb))<;>(try (exfalso;contradiction)))))
     all_goals (try (exfalso;first|contradiction|omega))
     all_goals exact ⟨.inr rfl,Vd rfl (.tmp rfl) (List.nil_sublist _) ⟨rfl,rfl⟩⟩
 · rw [if_neg h3]
   (repeat' (first|refine Xe ?_|refine Xb ?_|refine Xc ?_|(apply Xn;exact Ybu;exact rfl)|refine Xo ?_|refine Xs ?_|refine Xw ?_|(refine Xp rfl (fun hb=>?_) (fun hb=>?_)<;>(repeat (first|replace hb:=Xz hb|replace hb:=X0 hb))<;>(try (exfalso;contradiction)))))
   all_goals (try (exfalso;first|contradiction|omega))
   all_goals exact ⟨.inr rfl,Vd rfl (.tmp rfl) (List.nil_sublist _) ⟨rfl,rfl⟩⟩
end Go.Proofs.YthdldeenpgeemaaGreatDoor
namespace Go.Proofs.YthdldeenpgeemaaGreatDoor
open Go Go.RowKit Go.Kx Go.Fr Go.Lx
theorem Xi2 (l:List Int) (x:Int):FnC Tryz.prog 198 [isl eI l,exI .i64 x] [] (fun p loc=>(∃n:Int,p=exI .i64 n∧(0≤n↔x∈l))∧loc=[]):=by
 refine Wp (i:=0) rfl Wu fun ha=>?_
 obtain ⟨ha,-⟩:=ha
 simp only [maxLen] at ha
 refine X3 Tryz.func198 rfl Tryz.ntmps198 rfl fun w0 F0 out=>?_
 (repeat' (first|refine Xe ?_|refine Xb ?_|refine Xc ?_|(apply Xn;exact Yee;exact rfl)|refine Xo ?_))
 refine Ws (fun i:Nat=>([(0,isl eI l),(1,exI .i64 x),(7,exI .i64 (l.length:Int)),(8,exI .i64 (i:Int))],[])) (fun i=>i≤l.length∧x∉l.take i) (fun i=>l.length-i) 0 ?_ ⟨Nat.zero_le _,fun h=>by cases h⟩ fun i hi=>?_
 · exact Xg (by repeat (first|exact Xr|refine Xl rfl ?_)) (List.Sublist.refl _)
 obtain ⟨hi,hpre⟩:=hi
 by_cases hlt:i<l.length
 · by_cases he:x=l[i]
   · have hm:x∈l:=by rw [he];exact List.getElem_mem hlt
     clear hpre
     (repeat' (first|refine Xe ?_|refine Xb ?_|refine Xc ?_|(apply Xn;(first|exact Xf rfl|exact Xm rfl|exact Yag|exact Ycv|exact Yah);exact rfl)|refine Xo ?_|refine Xs ?_|refine Xw ?_|(refine Xp rfl (fun hb=>?_) (fun hb=>?_)<;>(repeat (first|replace hb:=Xz hb|replace hb:=X0 hb))<;>(try (exfalso;first|contradiction|omega)))))
     all_goals (try (exfalso;first|contradiction|omega))
     all_goals exact ⟨.inr rfl,Vd rfl (.tmp rfl) (List.nil_sublist _) ⟨⟨i,rfl,⟨fun _=>hm,fun _=>by omega⟩⟩,rfl⟩⟩
   · have hok:x∉l.take (i+1):=fun h=>by
       rw [List.take_succ_eq_append_getElem hlt] at h
       rcases List.mem_append.1 h with h|h
       · exact hpre h
       · exact he (List.mem_singleton.1 h)
     clear hpre
     (repeat' (first|refine Xe ?_|refine Xb ?_|refine Xc ?_|(apply Xn;(first|exact Xf rfl|exact Xm rfl|exact Yag|exact Yb2|exact Yah);exact rfl)|refine Xo ?_|refine Xs ?_|(refine Xp rfl (fun hb=>?_) (fun hb=>?_)<;>(repeat (first|replace hb:=Xz hb|replace hb:=X0 hb))<;>(try (exfalso;first|contradiction|omega)))))
     all_goals (try (exfalso;first|contradiction|omega))
     all_goals exact ⟨i+1,⟨by omega,hok⟩,by omega,Xg (by repeat (first|exact Xr|refine Xl rfl ?_)) (List.Sublist.refl _)⟩
 · rw [show i=l.length by omega,List.take_length] at hpre
   (repeat' (first|refine Xe ?_|refine Xb ?_|refine Xc ?_|(apply Xn;exact Ycq;exact rfl)|refine Xw ?_|refine Wm ?_|(refine Xp rfl (fun hb=>?_) (fun hb=>?_)<;>(repeat (first|replace hb:=Xz hb|replace hb:=X0 hb))<;>(try (exfalso;omega)))))
   all_goals (try (exfalso;omega))
   exact ⟨.inr rfl,Vd rfl (.tmp rfl) (List.nil_sublist _) ⟨⟨-1,rfl,⟨fun h=>by omega,fun h=>absurd h hpre⟩⟩,rfl⟩⟩
theorem Xff (l:List Int) (x:Int):FnC Tryz.prog 172 [isl eI l,exI .i64 x] [] (fun p loc=>p=exB (decide (x∈l))∧loc=[]):=by
 refine X3 Tryz.func172 rfl Tryz.ntmps172 rfl fun w0 F0 out=>?_
 (repeat' (first|refine Xe ?_|refine Xb ?_|refine Xc ?_|(apply Xn;exact Yc8;exact rfl)|refine Xw ?_|(apply Xh;exact rfl;(apply Xi;(refine Xq Tryz.func198 rfl (Xi2 l x) rfl ?_;rintro _ _ ⟨⟨n,rfl,hn⟩,rfl⟩)))))
 exact ⟨.inr rfl,Vd rfl (.tmp rfl) (List.nil_sublist _) ⟨congrArg exB (decide_eq_decide.2 hn),rfl⟩⟩
theorem Xdf (b at_:Nat) (s:List UInt8) (q:SP):FnP Tryz.prog 41 [ex (.pointer (some ⟨b,0,none⟩))] [row b 90 3 [exT s,exI .i64 (at_:Int),q]] (fun _ _=>False) (fun ch loc=>ch=[{ v:= .iface 83 (.int .i64 (at_:Int)),recovered:=false }]∧loc=[]):=by
 refine Wx Tryz.func41 rfl Tryz.ntmps41 rfl fun w0 F0 out=>?_
 (repeat' (first|(refine Rt rfl ?_)|refine Xb ?_|(apply Xn;(first|exact Xf rfl|exact Yai|exact Yad|exact Yat|(apply Xcw;exact Xew rfl rfl));exact rfl)))
 exact X2 (List.nil_sublist _) ⟨rfl,rfl⟩
def Xn3 (cls:List Int) (s:List UInt8):List UInt8:=s.takeWhile fun c=>decide (Ue c∈cls)
theorem Xd1 (b at_:Nat) (s:List UInt8) (q:SP) (cls:List Int) (hat:at_≤s.length) (hmax:s.length≤65536):FnC Tryz.prog 126 [ex (.pointer (some ⟨b,0,none⟩)),isl eI cls] [row b 90 3 [exT s,exI .i64 (at_:Int),q]] (fun p loc=>p=exT (Xn3 cls (s.drop at_))∧loc=[row b 90 3 [exT s,exI .i64 (at_:Int),q]]):=by
 unfold Xn3
 have hrun:=Xcy (fun c=>decide (Ue c∈cls)) s at_ hat
 rw [←hrun.sub]
 generalize ((s.drop at_).takeWhile fun c=>decide (Ue c∈cls)).length=L at hrun ⊢
 have hLle:=hrun.le
 refine X3 Tryz.func126 rfl Tryz.ntmps126 rfl fun w0 F0 out=>?_
 (repeat' (first|refine Xe ?_|refine Xb ?_|refine Xc ?_|(apply Xn;(first|exact Xf rfl|exact Xm rfl|exact Yai|exact Yad|exact Yat);exact rfl)|refine Xo ?_))
 refine Ws (fun j:Nat=>([(0,ex (.pointer (some ⟨b,0,none⟩))),(1,isl eI cls),(5,exI .i64 (j:Int))],[row b 90 3 [exT s,exI .i64 (at_:Int),q]])) (fun j=>at_≤j∧j≤at_+L) (fun j=>at_+L-j) at_ ?_ ⟨Nat.le_refl _,by omega⟩ fun j hj=>?_
 · exact Xg (by repeat (first|exact Xr|refine Xl rfl ?_)) (List.Sublist.refl _)
 obtain ⟨hj1,hj2⟩:=hj
 by_cases hlj:j<at_+L
 · have hjs:j<s.length:=by omega
   have hpj:=hrun.in_ j hjs hj1 hlj
   have hcs:=Sh s[j]
   have hct:=Xff cls (Ue s[j])
   rw [hpj] at hct
   (repeat' (first|refine Xe ?_|refine Xb ?_|refine Xc ?_|(apply Xn;(first|exact Xf rfl|exact Xm rfl|exact Wd (b:=true) rfl (fun _=>rfl) (fun e=>by cases e)|exact Yai|exact Yad|exact Ybc|exact Yau|exact Yat);exact rfl)|(apply W0;exact rfl;exact rfl;exact rfl;(first|exact Xf rfl|exact Yai|exact Yad|exact Ya5|exact Yat);exact rfl)|refine Xo ?_|refine Xs ?_|refine Xx rfl ?_|(apply Vm;exact rfl;exact rfl;exact rfl;exact rfl;(apply Xi;first|(refine Xq Tryz.func46 rfl hcs rfl ?_;rintro _ _ ⟨rfl,rfl⟩)|(refine Xq Tryz.func172 rfl hct rfl ?_;rintro _ _ ⟨rfl,rfl⟩)))|(refine Wf rfl rfl (fun hb=>?_) (fun hb=>?_)<;>(repeat (first|replace hb:=Xz hb|replace hb:=X0 hb))<;>(try (exfalso;omega)))))
   all_goals (try (exfalso;first|contradiction|omega))
   exact ⟨j+1,⟨by omega,by omega⟩,by omega,Xg (by repeat (first|exact Xr|refine Xl rfl ?_)) (List.Sublist.refl _)⟩
 have hje:j=at_+L:=by omega
 subst hje
 by_cases hend:at_+L<s.length
 · have hpj:=hrun.out_ hend
   have hcs:=Sh s[at_+L]
   have hct:=Xff cls (Ue s[at_+L])
   rw [hpj] at hct
   (repeat' (first|(apply W2 4;refine Stop.out ?_)|refine Xe ?_|refine Xb ?_|refine Xc ?_|(apply Xn;(first|exact Xf rfl|exact Wd (b:=true) rfl (fun _=>rfl) (fun e=>by cases e)|exact Yai|exact Yad|exact Yam|exact Yau|exact Yat);exact rfl)|(apply W0;exact rfl;exact rfl;exact rfl;(first|exact Xf rfl|exact Yai|exact Yad|exact Ya5|exact Yat);exact rfl)|refine Wm ?_|refine Xy rfl ?_|(apply Vm;exact rfl;exact rfl;exact rfl;exact rfl;(apply Xi;first|(refine Xq Tryz.func46 rfl hcs rfl ?_;rintro _ _ ⟨rfl,rfl⟩)|(refine Xq Tryz.func172 rfl hct rfl ?_;rintro _ _ ⟨rfl,rfl⟩)))|(refine Wf rfl rfl (fun hb=>?_) (fun hb=>?_)<;>(repeat (first|replace hb:=Xz hb|replace hb:=X0 hb))<;>(try (exfalso;omega)))))
   all_goals (try (exfalso;first|contradiction|omega))
   refine ⟨Xe ?_⟩
   (refine Vh ([row b 90 3 [exT s,exI .i64 (at_:Int),q]]) 11 rfl ?_)
   all_goals ((apply Xd 0 rfl Yaa rfl Yab Xa;(exact Xf rfl);exact rfl))
   all_goals ((apply Xd 1 rfl Yaa rfl Yab Xa;(exact Yat);exact rfl))
   all_goals ((apply Xd 2 rfl Yaa rfl Yab Xa;(exact Yad);exact rfl))
   all_goals ((apply Xv 3 rfl Yaa rfl Yaa Yab Xa;(exact Yai);exact rfl))
   all_goals ((apply Xd 4 rfl Yaa rfl Yab Xa;(exact Xf rfl);exact rfl))
   all_goals ((apply Xd 5 rfl Yaa rfl Yab Xa;(exact Yat);exact rfl))
   all_goals ((apply Xd 6 rfl Yaa rfl Yab Xa;(exact Yad);exact rfl))
   all_goals ((apply Xv 7 rfl Yaa rfl Yaa Yab Xa;(exact Yai);exact rfl))
   all_goals ((apply Xd 8 rfl Yaa rfl Yab Xa;(exact Xf rfl);exact rfl))
   all_goals ((apply Xd 9 rfl Yaa rfl Yab Xa;(exact Ycc);exact rfl))
   all_goals ((apply Xd 10 rfl Yaa rfl Yab Xa;(exact Xm rfl);exact rfl))
   all_goals (refine X9 Yaa ?_)
   all_goals ((repeat' (refine Xw ?_)))
   all_goals exact ⟨.inr rfl,Vd rfl (.tmp rfl) (List.Sublist.refl _) ⟨rfl,rfl⟩⟩
 · (repeat' (first|(apply W2 4;refine Stop.out ?_)|refine Xe ?_|refine Xb ?_|refine Xc ?_|(apply Xn;(first|exact Xf rfl|exact Wd (b:=false) rfl (fun e=>by cases e) (fun _=>rfl)|exact Yai|exact Yad|exact Yam|exact Yau|exact Yat);exact rfl)|(refine Wv rfl rfl rfl rfl rfl ?_)|refine Wm ?_|refine Xy rfl ?_|(refine Wf rfl rfl (fun hb=>?_) (fun hb=>?_)<;>(repeat (first|replace hb:=Xz hb|replace hb:=X0 hb))<;>(try (exfalso;omega)))))
   all_goals (try (exfalso;first|contradiction|omega))
   refine ⟨Xe ?_⟩
   (refine Vh ([row b 90 3 [exT s,exI .i64 (at_:Int),q]]) 11 rfl ?_)
   all_goals ((apply Xd 0 rfl Yaa rfl Yab Xa;(exact Xf rfl);exact rfl))
   all_goals ((apply Xd 1 rfl Yaa rfl Yab Xa;(exact Yat);exact rfl))
   all_goals ((apply Xd 2 rfl Yaa rfl Yab Xa;(exact Yad);exact rfl))
   all_goals ((apply Xv 3 rfl Yaa rfl Yaa Yab Xa;(exact Yai);exact rfl))
   all_goals ((apply Xd 4 rfl Yaa rfl Yab Xa;(exact Xf rfl);exact rfl))
   all_goals ((apply Xd 5 rfl Yaa rfl Yab Xa;(exact Yat);exact rfl))
   all_goals ((apply Xd 6 rfl Yaa rfl Yab Xa;(exact Yad);exact rfl))
   all_goals ((apply Xv 7 rfl Yaa rfl Yaa Yab Xa;(exact Yai);exact rfl))
   all_goals ((apply Xd 8 rfl Yaa rfl Yab Xa;(exact Xf rfl);exact rfl))
   all_goals ((apply Xd 9 rfl Yaa rfl Yab Xa;(exact Ycc);exact rfl))
   all_goals ((apply Xd 10 rfl Yaa rfl Yab Xa;(exact Xm rfl);exact rfl))
   all_goals (refine X9 Yaa ?_)
   all_goals ((repeat' (refine Xw ?_)))
   all_goals exact ⟨.inr rfl,Vd rfl (.tmp rfl) (List.Sublist.refl _) ⟨rfl,rfl⟩⟩
end Go.Proofs.YthdldeenpgeemaaGreatDoor
namespace Go.Fr
open Go.RowKit Go.Kx Go.Lx
def Xn4 (T:TypeId) (at_:Nat) (ch:List PanicEntry) (loc:List Ent):Prop:=ch=[{ v:= .iface T (.int .i64 (at_:Int)),recovered:=false }]∧loc=[]
theorem Uu {f:Env→List Ent→Prop} {Q:Post} {ch:List PanicEntry} {env:Env} {loc:List Ent} (h:Q (.panic ch) env loc):Xmf f Q (.panic ch) env loc:=h
end Go.Fr
namespace Go.Proofs.YthdldeenpgeemaaGreatDoor
open Go Go.RowKit Go.Kx Go.Fr Go.Lx
def scanL (b at_:Nat) (s:List UInt8) (oa:Option Addr) (c:Nat) (acc:List TokD):List Ent:=[row b 90 3 [exT s,exI .i64 (at_:Int),ex (.slice oa acc.length c)],vec (.slice oa acc.length c) 40 4 acc.length (acc.flatMap Qa)]
theorem Xd2 (b at_:Nat) (s text:List UInt8) (t:TokD) (oa:Option Addr) (c:Nat) (acc:List TokD) (hat:at_+text.length≤65536) (hacc:acc.length≤65536):FnP Tryz.prog 127 [ex (.pointer (some ⟨b,0,none⟩)),exT text,agg (Qa t)] (scanL b at_ s oa c acc) (fun _ loc=>V0 t=true∧ ∃oa2 c2,loc=scanL b (at_+text.length) s oa2 c2 (acc++[{ t with at_:=at_ }])) (fun ch loc=>V0 t=false∧Xn4 83 at_ ch loc):=by
 have hvl:=Xfe t
 unfold scanL
 refine Wx Tryz.func127 rfl Tryz.ntmps127 rfl fun w0 F0 out=>?_
 cases hv:V0 t
 · rw [hv] at hvl
   (repeat' (first|(refine Rt rfl ?_)|refine Xe ?_|refine Xb ?_|refine Xc ?_|(apply Xn;(first|exact Xf rfl|exact Ydu|exact Yad|exact Yaz|exact Yat|(apply Xcw;exact Xew rfl rfl));exact rfl)|refine Xx rfl ?_|(apply Xh;exact rfl;first|(apply Xi;(refine Xq Tryz.func49 rfl hvl rfl ?_;rintro _ _ ⟨rfl,rfl⟩))|(apply Vp;refine W4 rfl ?_;intro _))))
   all_goals (try (exfalso;first|contradiction|omega))
   refine Uu (X2 (loc':=[]) (List.nil_sublist _) ?_)
   exact And.intro rfl (And.intro rfl rfl)
 · rw [hv] at hvl
   (repeat' (first|(apply W2 4;refine Stop.out ?_)|refine Xe ?_|refine Xb ?_|refine Xc ?_|(apply Xn;(first|exact Xf rfl|exact Ydu|exact Yad|exact Yaz|exact Yat);exact rfl)|refine Xs ?_|refine Xy rfl ?_|(apply Xh;exact rfl;first|(apply Xi;(refine Xq Tryz.func49 rfl hvl rfl ?_;rintro _ _ ⟨rfl,rfl⟩))|(apply Vp;refine W4 rfl ?_;intro _)|(apply Xt;refine Xj (k:=0) (l0:=[]) rfl rfl rfl ?_))))
   all_goals (try (exfalso;first|contradiction|omega))
   rename_i b5
   constructor
   refine Xaq 4 (fun x:Option Addr×Nat=>([(0,ex (.pointer (some ⟨b,0,none⟩))),(1,exT text)],[row b 90 3 [exT s,exI .i64 (at_:Int),ex (.slice x.1 (acc.length+1) x.2)],vec (.slice x.1 (acc.length+1) x.2) 40 4 (acc.length+1) (acc.flatMap Qa++Qa { t with at_:=at_ })])) (fun _=>True) ?_ fun x _=>?_
   · refine Xho ?_
     refine X7 (env':=[(0,ex (.pointer (some ⟨b,0,none⟩))),(1,exT text),(5,ex (.pointer (some ⟨b5,0,none⟩)))]) (loc':=[row b5 40 4 (Qa { t with at_:=at_ }),row b 90 3 [exT s,exI .i64 (at_:Int),ex (.slice oa acc.length c)],vec (.slice oa acc.length c) 40 4 acc.length (acc.flatMap Qa)]) (Xg (by repeat (first|exact Xr|refine Xl rfl ?_)) (List.Sublist.refl _)) ?_
     (refine Wt 6 rfl ?_)
     (try ((refine U5 (k:=3) rfl Yan ?_;intro _ _ hv _ _;subst hv)))
     (apply Xd 0 rfl Yaa rfl Yb0 Xa;(exact Xf rfl);exact rfl)
     (try ((refine U5 (k:=3) rfl Yan ?_;intro _ _ hv _ _;subst hv)))
     (apply Xd 1 rfl Yaa rfl Yb0 Xa;(exact Xf rfl);exact rfl)
     (try ((refine U5 (k:=3) rfl Yan ?_;intro _ _ hv _ _;subst hv)))
     (apply Xd 2 rfl Yaa rfl Yb0 Xa;(exact Yat);exact rfl)
     (try ((refine U5 (k:=3) rfl Yan ?_;intro _ _ hv _ _;subst hv)))
     (apply Xd 3 rfl Yaa rfl Yb0 Xa;(exact Yad);exact rfl)
     (try ((refine U5 (k:=3) rfl Yan ?_;intro _ _ hv _ _;subst hv)))
     (refine Uw (H1:=fun _=>True) (H2:=fun _=>True) 4 5 Yaa rfl Xa (fun _ _ _=>trivial) rfl Xa (fun _ _ _=>trivial) ?_ ?_)
     ·
       ((apply Tm (H:=fun _=>True);(exact Ya0);exact rfl))
       (try ((refine U5 (k:=3) rfl Yan ?_;intro _ _ hv _ _;subst hv)))
       (refine Xu (H':=fun _=>True) 5 Yaa rfl Xa (fun _ _ _=>trivial) ?_)
       ((apply Tm (H:=fun _=>True);(exact Ybg);exact rfl))
       (try ((refine U5 (k:=3) rfl Yan ?_;intro _ _ hv _ _;subst hv)))
       (refine Xu (H':=Tp []) 6 Yaa rfl Xa (fun h=>absurd h Yao) ?_)
       ((apply X5;(first|refine X6 rfl rfl ?_|refine Wi rfl Yac ?_|refine Ub rfl ?_);intro _))
       (try ((refine U5 (k:=3) rfl Yan ?_;intro _ _ hv _ _;subst hv)))
       (refine Xu (H':=Tp []) 7 Yaa rfl Xa (fun h=>absurd h Yao) ?_)
       ((apply Ve;refine Vb (k:=3) (l0:=[]) rfl rfl Yem rfl ?_;intro _))
       (try ((refine U5 (k:=3) rfl Yan ?_;intro _ _ hv _ _;subst hv)))
       (refine Xu (H':=fun _=>True) 8 Yaa rfl Xa (fun _ _ _=>trivial) ?_)
       ((apply Tm (H:=fun _=>True);(exact Yat);exact rfl))
       (try ((refine U5 (k:=3) rfl Yan ?_;intro _ _ hv _ _;subst hv)))
       (refine Xu (H':=fun _=>True) 9 Yaa rfl Xa (fun _ _ _=>trivial) ?_)
       ((apply Tm (H:=fun _=>True);(exact Yad);exact rfl))
       (try ((refine U5 (k:=3) rfl Yan ?_;intro _ _ hv _ _;subst hv)))
       (refine Xu (H':=Tp []) 10 Yaa rfl Xa (fun h=>absurd h Yao) ?_)
       ((apply Xt;refine Xj (k:=2) (l0:=[]) rfl rfl rfl ?_))
       (try ((refine U5 (k:=3) rfl Yan ?_;intro _ _ hv _ _;subst hv)))
       refine X9 Yaa ?_
       exact ⟨rfl,Wo (_,_) trivial (Xg (by repeat (first|exact Xr|refine Xl rfl ?_)) Ydc)⟩
     ·
       ((apply Tm (H:=fun _=>True);(exact Ybg);exact rfl))
       (try ((refine U5 (k:=3) rfl Yan ?_;intro _ _ hv _ _;subst hv)))
       (refine Uw (H1:=fun _=>True) (H2:=Tp []) 4 6 Yaa rfl Xa (fun _ _ _=>trivial) rfl Xa (fun h=>absurd h Yao) ?_ ?_)
       ·
         ((apply Tm (H:=fun _=>True);(exact Ya0);exact rfl))
         (try ((refine U5 (k:=3) rfl Yan ?_;intro _ _ hv _ _;subst hv)))
         (refine Xu (H':=Tp []) 6 Yaa rfl Xa (fun h=>absurd h Yao) ?_)
         ((apply X5;(first|refine X6 rfl rfl ?_|refine Wi rfl Yac ?_|refine Ub rfl ?_);intro _))
         (try ((refine U5 (k:=3) rfl Yan ?_;intro _ _ hv _ _;subst hv)))
         (refine Xu (H':=Tp []) 7 Yaa rfl Xa (fun h=>absurd h Yao) ?_)
         ((apply Ve;refine Vb (k:=3) (l0:=[]) rfl rfl Yem rfl ?_;intro _))
         (try ((refine U5 (k:=3) rfl Yan ?_;intro _ _ hv _ _;subst hv)))
         (refine Xu (H':=fun _=>True) 8 Yaa rfl Xa (fun _ _ _=>trivial) ?_)
         ((apply Tm (H:=fun _=>True);(exact Yat);exact rfl))
         (try ((refine U5 (k:=3) rfl Yan ?_;intro _ _ hv _ _;subst hv)))
         (refine Xu (H':=fun _=>True) 9 Yaa rfl Xa (fun _ _ _=>trivial) ?_)
         ((apply Tm (H:=fun _=>True);(exact Yad);exact rfl))
         (try ((refine U5 (k:=3) rfl Yan ?_;intro _ _ hv _ _;subst hv)))
         (refine Xu (H':=Tp []) 10 Yaa rfl Xa (fun h=>absurd h Yao) ?_)
         ((apply Xt;refine Xj (k:=2) (l0:=[]) rfl rfl rfl ?_))
         (try ((refine U5 (k:=3) rfl Yan ?_;intro _ _ hv _ _;subst hv)))
         refine X9 Yaa ?_
         exact ⟨rfl,Wo (_,_) trivial (Xg (by repeat (first|exact Xr|refine Xl rfl ?_)) Ydc)⟩
       ·
         ((apply X5;(first|refine X6 rfl rfl ?_|refine Wi rfl Yac ?_|refine Ub rfl ?_);intro _))
         (try ((refine U5 (k:=3) rfl Yan ?_;intro _ _ hv _ _;subst hv)))
         (refine Xu (H':=fun _=>True) 4 Yaa rfl Xa (fun _ _ _=>trivial) ?_)
         ((apply Tm (H:=fun _=>True);(exact Yev);exact rfl))
         (try ((refine U5 (k:=3) rfl Yan ?_;intro _ _ hv _ _;subst hv)))
         (refine Xu (H':=Tp []) 7 Yaa rfl Xa (fun h=>absurd h Yao) ?_)
         ((apply Ve;refine Vb (k:=3) (l0:=[]) rfl rfl Yem rfl ?_;intro _))
         (try ((refine U5 (k:=3) rfl Yan ?_;intro _ _ hv _ _;subst hv)))
         (refine Xu (H':=fun _=>True) 8 Yaa rfl Xa (fun _ _ _=>trivial) ?_)
         ((apply Tm (H:=fun _=>True);(exact Yat);exact rfl))
         (try ((refine U5 (k:=3) rfl Yan ?_;intro _ _ hv _ _;subst hv)))
         (refine Xu (H':=fun _=>True) 9 Yaa rfl Xa (fun _ _ _=>trivial) ?_)
         ((apply Tm (H:=fun _=>True);(exact Yad);exact rfl))
         (try ((refine U5 (k:=3) rfl Yan ?_;intro _ _ hv _ _;subst hv)))
         (refine Xu (H':=Tp []) 10 Yaa rfl Xa (fun h=>absurd h Yao) ?_)
         ((apply Xt;refine Xj (k:=2) (l0:=[]) rfl rfl rfl ?_))
         (try ((refine U5 (k:=3) rfl Yan ?_;intro _ _ hv _ _;subst hv)))
         refine X9 Yaa ?_
         exact ⟨rfl,Wo (_,_) trivial (Xg (by repeat (first|exact Xr|refine Xl rfl ?_)) Ydc)⟩
   obtain ⟨oa2,c2⟩:=x
   simp only
   (repeat' (first|refine Xb ?_|refine Xc ?_|(apply Xn;(first|exact Xf rfl|exact Yai|exact Yad|exact Ya7|exact Yau|exact Yat);exact rfl)|(apply Xh;exact rfl;(apply Xt;refine Xj (k:=0) (l0:=[]) rfl rfl rfl ?_))))
   refine ⟨.inl rfl,Rk (loc':=[row b 90 3 [exT s,exI .i64 ((at_:Int)+(text.length:Int)),ex (.slice oa2 (acc.length+1) c2)],vec (.slice oa2 (acc.length+1) c2) 40 4 (acc.length+1) (acc.flatMap Qa++Qa { t with at_:=at_ })]) rfl (List.Sublist.refl _) ⟨by first|rfl|trivial,oa2,c2,?_⟩⟩
   simp only [List.length_append,List.length_cons,List.length_nil,Nat.zero_add,List.flatMap_append,List.flatMap_cons,List.flatMap_nil,List.append_nil,Int.natCast_add]
end Go.Proofs.YthdldeenpgeemaaGreatDoor
namespace Go.Lx
theorem Xop {s:List UInt8} {i:Nat} (hi:i<s.length) (h:V3 s[i]=true):(Ru ((s.drop i).takeWhile partB)=true→T7 i (s.drop i)=(T7 (i+((s.drop i).takeWhile partB).length) (s.drop (i+((s.drop i).takeWhile partB).length))).map (⟨1,(s.drop i).takeWhile partB,0,i⟩:: ·))∧(Ru ((s.drop i).takeWhile partB)=false→T7 i (s.drop i)= .error i)∧1≤((s.drop i).takeWhile partB).length∧i+((s.drop i).takeWhile partB).length≤s.length:=by
 have hd:s.drop i=s[i]::s.drop (i+1):=List.drop_eq_getElem_cons hi
 have hle:((s.drop i).takeWhile partB).length≤s.length-i:=by rw [←List.length_drop];exact Qc _
 have hst:step (s[i]::s.drop (i+1))=if ((s.drop i).takeWhile partB).length≤32 then .tok ((s.drop i).takeWhile partB).length 1 ((s.drop i).takeWhile partB) 0 else .bad:=by
   rw [T5,if_neg (by rw [((Uc s[i]).1 h).1];simp),if_neg (fun e=>((Uc s[i]).1 h).2.2.2.1 e.1),if_pos h,hd]
 refine ⟨fun hn=>?_,fun hn=>?_,by rw [hd];exact S1 (Uh h),by omega⟩
 · rw [hd,Xca h,←hd,decide_eq_true_iff] at hn
   rw [if_pos hn] at hst
   exact Ti hi hst
 · rw [hd,Xca h,←hd,decide_eq_false_iff_not] at hn
   rw [if_neg hn] at hst
   exact Tj hi hst
theorem Xj2 {s:List UInt8} {i:Nat} (hi:i<s.length) (h:digitB s[i]=true):(Xc1 ((s.drop i).takeWhile digitB)=true→T7 i (s.drop i)=(T7 (i+((s.drop i).takeWhile digitB).length) (s.drop (i+((s.drop i).takeWhile digitB).length))).map (⟨2,[],S7 ((s.drop i).takeWhile digitB),i⟩:: ·))∧(Xc1 ((s.drop i).takeWhile digitB)=false→T7 i (s.drop i)= .error i)∧1≤((s.drop i).takeWhile digitB).length∧i+((s.drop i).takeWhile digitB).length≤s.length:=by
 have hd:s.drop i=s[i]::s.drop (i+1):=List.drop_eq_getElem_cons hi
 have hle:((s.drop i).takeWhile digitB).length≤s.length-i:=by rw [←List.length_drop];exact Qc _
 obtain ⟨c1,c2,c3,c4,-⟩:=(Uc s[i]).2.1 h
 have hst:step (s[i]::s.drop (i+1))=if Xc1 ((s.drop i).takeWhile digitB) then .tok ((s.drop i).takeWhile digitB).length 2 [] (S7 ((s.drop i).takeWhile digitB)) else .bad:=by
   rw [T5,if_neg (by rw [c1];simp),if_neg (fun e=>c4 e.1),if_neg (by rw [c2];simp),if_pos h,hd]
 refine ⟨fun hn=>?_,fun hn=>?_,by rw [hd];exact S1 h,by omega⟩
 · rw [if_pos hn] at hst
   exact Ti hi hst
 · rw [if_neg (by rw [hn];simp)] at hst
   exact Tj hi hst
theorem Xmr {s:List UInt8} {i:Nat} (hi:i<s.length) (h:spaceB s[i]=true):T7 i (s.drop i)=T7 (i+((s.drop i).takeWhile spaceB).length) (s.drop (i+((s.drop i).takeWhile spaceB).length))∧1≤((s.drop i).takeWhile spaceB).length∧i+((s.drop i).takeWhile spaceB).length≤s.length:=by
 have hd:s.drop i=s[i]::s.drop (i+1):=List.drop_eq_getElem_cons hi
 have hle:((s.drop i).takeWhile spaceB).length≤s.length-i:=by rw [←List.length_drop];exact Qc _
 have key: ∀(n k:Nat),n≤((s.drop i).takeWhile spaceB).length→k=n→T7 i (s.drop i)=T7 (i+k) (s.drop (i+k)):=by
   intro n
   induction n with
   | zero=>intro k _ e;subst e;rfl
   | succ n ih=>
     intro k hn e
     subst e
     rw [ih n Yan rfl]
     have hlt:i+n<s.length:=by omega
     have hs:spaceB s[i+n]=true:=(Xcy spaceB s i Yan).in_ (i+n) hlt Yan Yan
     rw [Se hlt (Xdw hs _),Nat.add_assoc]
 exact ⟨key _ _ (Nat.le_refl _) rfl,by rw [hd];exact S1 h,by omega⟩
theorem Xi3 {s:List UInt8} {i:Nat} (hi:i<s.length) (h:s[i]=47) (h2:(s.drop (i+1)).head?=some 47):T7 i (s.drop i)=T7 (i+((s.drop i).takeWhile lineB).length) (s.drop (i+((s.drop i).takeWhile lineB).length))∧1≤((s.drop i).takeWhile lineB).length∧i+((s.drop i).takeWhile lineB).length≤s.length:=by
 have hd:s.drop i=s[i]::s.drop (i+1):=List.drop_eq_getElem_cons hi
 have hle:((s.drop i).takeWhile lineB).length≤s.length-i:=by rw [←List.length_drop];exact Qc _
 have hst:step (s[i]::s.drop (i+1))= .skip ((s.drop i).takeWhile lineB).length:=by
   rw [T5,if_neg (by rw [h];decide),if_pos ⟨h,h2⟩,hd]
 exact ⟨Se hi hst,by rw [hd];exact S1 (by rw [h];decide),by omega⟩
theorem Xoq {s:List UInt8} {i:Nat} (hi:i<s.length) (h:Tu s[i]=true) (h2:s[i]=47→(s.drop (i+1)).head?≠some 47):T7 i (s.drop i)=(T7 (i+1) (s.drop (i+1))).map (⟨3,[s[i]],0,i⟩:: ·):=Ti hi (Xgd h h2)
theorem Xh0 {s:List UInt8} {i:Nat} (hi:i<s.length) (h1:spaceB s[i]=false) (h2:V3 s[i]=false) (h3:digitB s[i]=false) (h4:Tu s[i]=false):T7 i (s.drop i)= .error i:=by
 refine Tj hi ?_
 rw [T5,if_neg Ycx,if_neg (fun e=>by rw [e.1,sign47] at h4;cases h4),if_neg Ydr,if_neg Yea,if_neg Yer]
theorem Xgt {t:List UInt8} (hd: ∀c∈t,digitB c=true) (hne:t≠[]):decF (S7 t)=t↔(t.length=1∨t.head?≠some 48):=by
 refine ⟨fun h=>?_,fun h=>val_dec t hd hne h⟩
 by_cases h0:S7 t=0
 · left;rw [←h,h0,Uy Yao];rfl
 · right;rw [←h];exact decF_head _ Yan
theorem Xms {t:List UInt8} (hd: ∀c∈t,digitB c=true) (hne:t≠[]):Xc1 t=(decide (S7 t≤1099511627776)&&decide (decF (S7 t)=t)):=by
 unfold Xc1
 congr 1
 rw [←Bool.decide_or]
 exact decide_eq_decide.2 (Xgt hd hne).symm
end Go.Lx
namespace Go.Proofs
open Go.Shelf
def Tryz.lays156_ren:Go.Shelf.Ren:=⟨fun|156=>51|165=>78|166=>79|169=>81|240=>143|241=>144|276=>181|277=>182|n=>n,fun|31=>93|9=>9|3=>3|4=>4|0=>0|20=>20|72=>130|76=>134|70=>127|37=>128|75=>133|127=>199|164=>236|5=>5|80=>137|n=>n,fun|n=>n⟩
theorem Tryz.lays156:Go.Proofs.Lays.n156 Tryz.prog Tryz.lays156_ren:={
 mixed:=by kernel_rfl
 f156:=Tryz.func51.trans (congrArg some Yaw)
 f165:=Tryz.func78.trans (congrArg some Yaw)
 f166:=Tryz.func79.trans (congrArg some Yaw)
 f169:=Tryz.func81.trans (congrArg some Yaw)
 f240:=Tryz.func143.trans (congrArg some Yaw)
 f241:=Tryz.func144.trans (congrArg some Yaw)
 f276:=Tryz.func181.trans (congrArg some Yaw)
 f277:=Tryz.func182.trans (congrArg some Yaw)
 t0:=Tryz.underlying0
 a0:=Tryz.isAgg0
 z0:=Tryz.sizeOf0
 v0:=Tryz.zeroValue0
 t3:=Tryz.underlying3
 a3:=Tryz.isAgg3
 z3:=Tryz.sizeOf3
 v3:=Tryz.zeroValue3
 t4:=Tryz.underlying4
 a4:=Tryz.isAgg4
 z4:=Tryz.sizeOf4
 v4:=Tryz.zeroValue4
 t9:=Tryz.underlying9
 a9:=Tryz.isAgg9
 z9:=Tryz.sizeOf9
 v9:=Tryz.zeroValue9
 t20:=Tryz.underlying20
 a20:=Tryz.isAgg20
 z20:=Tryz.sizeOf20
 v20:=Tryz.zeroValue20
 t31:=Tryz.underlying93
 a31:=Tryz.isAgg93
 z31:=Tryz.sizeOf93
 v31:=Tryz.zeroValue93
 t37:=Tryz.underlying128
 a37:=Tryz.isAgg128
 z37:=Tryz.sizeOf128
 v37:=Tryz.zeroValue128
 t70:=Tryz.underlying127
 a70:=Tryz.isAgg127
 z70:=Tryz.sizeOf127
 v70:=Tryz.zeroValue127
 t72:=Tryz.underlying130
 a72:=Tryz.isAgg130
 z72:=Tryz.sizeOf130
 v72:=Tryz.zeroValue130
 t75:=Tryz.underlying133
 a75:=Tryz.isAgg133
 z75:=Tryz.sizeOf133
 v75:=Tryz.zeroValue133
 t76:=Tryz.underlying134
 a76:=Tryz.isAgg134
 z76:=Tryz.sizeOf134
 v76:=Tryz.zeroValue134
 t127:=Tryz.underlying199
 a127:=Tryz.isAgg199
 z127:=Tryz.sizeOf199
 v127:=Tryz.zeroValue199
 t164:=Tryz.underlying236
 a164:=Tryz.isAgg236
 z164:=Tryz.sizeOf236
 v164:=Tryz.zeroValue236 }
theorem Tryz.Builder_Extra_156:Builder.Extra Tryz.prog Tryz.lays156_ren:={
 sizeBuilder:=by kernel_rfl
 liesBuilder:=by kernel_rfl
 t5:=Tryz.underlying5
 a5:=Tryz.isAgg5
 z5:=Tryz.sizeOf5
 v5:=Tryz.zeroValue5
 infoByte:=by kernel_rfl
 cellsByte:=by kernel_rfl
 sizeByte:=by kernel_rfl
 neB5:=by decide }
open Go.RowKit in
theorem Tryz.strings_Join_none (a:Option Addr) (c:Nat) (sep:ByteArray) (w:World):
   Calls Tryz.prog 51 #[.slice a 0 c,.string sep] w fun e w'=>e= .returned (.string ⟨#[]⟩)∧w'=w:=Any.strings_Join_none Tryz.lays156 Tryz.Builder_Extra_156 a c sep w
open Go.RowKit in
theorem Tryz.strings_Join (bk o c:Nat) (xs:List ByteArray) (sep:ByteArray) (w:World) (hcells: ∀(j:Nat) x,xs[j]?=some x→w.cell? ⟨bk,o+j,none⟩=some (.string x)) (hbk:bk<w.heap.size) (hN:xs.length≤140737488355328) (hcap:xs.length≤c) (hlen:(Lib.join (xs.map (·.data.toList)) sep.data.toList).length≤140737488355328):
   Calls Tryz.prog 51 #[.slice (some ⟨bk,o,none⟩) xs.length c,.string sep] w fun e w'=>e= .returned (.string ⟨(Lib.join (xs.map (·.data.toList)) sep.data.toList).toArray⟩)∧Below w.heap.size w w':=Any.strings_Join Tryz.lays156 Tryz.Builder_Extra_156 bk o c xs sep w hcells hbk hN hcap hlen
def Tryz.laysM171_ren:Go.Shelf.Ren:=⟨fun|171=>50|243=>131|246=>176|283=>205|284=>206|285=>207|286=>208|129=>222|317=>221|318=>223|319=>224|320=>225|337=>233|338=>234|n=>n,fun|3=>3|9=>9|2=>2|4=>4|171=>255|0=>0|53=>196|37=>128|5=>5|173=>258|212=>276|51=>193|20=>20|213=>277|46=>45|232=>302|233=>303|n=>n,fun|17=>4|18=>6|19=>7|n=>n⟩
theorem Tryz.laysM171:Go.Proofs.LaysM.n171 Tryz.prog Tryz.laysM171_ren:={
 mixed:=by kernel_rfl
 f129:=Tryz.func222.trans (congrArg some Yaw)
 f171:=Tryz.func50.trans (congrArg some Yaw)
 f243:=Tryz.func131.trans (congrArg some Yaw)
 f246:=Tryz.func176.trans (congrArg some Yaw)
 f283:=Tryz.func205.trans (congrArg some Yaw)
 f284:=Tryz.func206.trans (congrArg some Yaw)
 f285:=Tryz.func207.trans (congrArg some Yaw)
 f286:=Tryz.func208.trans (congrArg some Yaw)
 f317:=Tryz.func221.trans (congrArg some Yaw)
 f318:=Tryz.func223.trans (congrArg some Yaw)
 f319:=Tryz.func224.trans (congrArg some Yaw)
 f320:=Tryz.func225.trans (congrArg some Yaw)
 f337:=Tryz.func233.trans (congrArg some Yaw)
 f338:=Tryz.func234.trans (congrArg some Yaw)
 t0:=Tryz.underlying0
 a0:=Tryz.isAgg0
 z0:=Tryz.sizeOf0
 v0:=Tryz.zeroValue0
 t2:=Tryz.underlying2
 a2:=Tryz.isAgg2
 z2:=Tryz.sizeOf2
 v2:=Tryz.zeroValue2
 t3:=Tryz.underlying3
 a3:=Tryz.isAgg3
 z3:=Tryz.sizeOf3
 v3:=Tryz.zeroValue3
 t4:=Tryz.underlying4
 a4:=Tryz.isAgg4
 z4:=Tryz.sizeOf4
 v4:=Tryz.zeroValue4
 t5:=Tryz.underlying5
 a5:=Tryz.isAgg5
 z5:=Tryz.sizeOf5
 v5:=Tryz.zeroValue5
 t9:=Tryz.underlying9
 a9:=Tryz.isAgg9
 z9:=Tryz.sizeOf9
 v9:=Tryz.zeroValue9
 t20:=Tryz.underlying20
 a20:=Tryz.isAgg20
 z20:=Tryz.sizeOf20
 v20:=Tryz.zeroValue20
 t37:=Tryz.underlying128
 a37:=Tryz.isAgg128
 z37:=Tryz.sizeOf128
 v37:=Tryz.zeroValue128
 t46:=Tryz.underlying45
 a46:=Tryz.isAgg45
 z46:=Tryz.sizeOf45
 v46:=Tryz.zeroValue45
 t51:=Tryz.underlying193
 a51:=Tryz.isAgg193
 z51:=Tryz.sizeOf193
 v51:=Tryz.zeroValue193
 t53:=Tryz.underlying196
 a53:=Tryz.isAgg196
 z53:=Tryz.sizeOf196
 v53:=Tryz.zeroValue196
 t171:=Tryz.underlying255
 a171:=Tryz.isAgg255
 z171:=Tryz.sizeOf255
 v171:=Tryz.zeroValue255
 t173:=Tryz.underlying258
 a173:=Tryz.isAgg258
 z173:=Tryz.sizeOf258
 v173:=Tryz.zeroValue258
 t212:=Tryz.underlying276
 a212:=Tryz.isAgg276
 z212:=Tryz.sizeOf276
 v212:=Tryz.zeroValue276
 t213:=Tryz.underlying277
 a213:=Tryz.isAgg277
 z213:=Tryz.sizeOf277
 t232:=Tryz.underlying302
 a232:=Tryz.isAgg302
 z232:=Tryz.sizeOf302
 v232:=Tryz.zeroValue302
 t233:=Tryz.underlying303
 a233:=Tryz.isAgg303
 z233:=Tryz.sizeOf303
 v233:=Tryz.zeroValue303
 g17:=by kernel_rfl
 g18:=by kernel_rfl
 g19:=by kernel_rfl
 i0:=by kernel_rfl
 i2:=by kernel_rfl
 i3:=by kernel_rfl
 i4:=by kernel_rfl
 i5:=by kernel_rfl
 i9:=by kernel_rfl
 i20:=by kernel_rfl
 i37:=by kernel_rfl
 i46:=by kernel_rfl
 i51:=by kernel_rfl
 i53:=by kernel_rfl
 i171:=by kernel_rfl
 i173:=by kernel_rfl
 i212:=by kernel_rfl
 i232:=by kernel_rfl
 i233:=by kernel_rfl
 m17:=by kernel_rfl
 m18:=by kernel_rfl
 m19:=by kernel_rfl }
open Go.RowKit Go.Sort Go.Lib in
theorem Tryz.strconv_Itoa (n:Int) (h0: -9223372036854775808≤n) (h1:n≤9223372036854775807) (w:World) (htab:Lib.TabIs Tryz.prog w "internal/strconv.uint64pow10" .u64 Lib.pow10Tab):
   Calls Tryz.prog 50 #[.int .i64 n] w fun e w'=>e= .returned (.string ⟨(Lib.itoa n).toArray⟩)∧ ∃k os,w'=grow (w.drewN k) os:=Any.strconv_Itoa Tryz.laysM171 n h0 h1 w htab
def Tryz.laysC172_ren:Go.Shelf.Ren:=⟨fun|172=>128|244=>173|245=>174|247=>199|279=>200|280=>201|281=>202|282=>203|287=>218|316=>219|171=>50|205=>220|321=>231|322=>232|243=>131|246=>176|283=>205|284=>206|285=>207|286=>208|129=>222|317=>221|318=>223|319=>224|320=>225|337=>233|338=>234|n=>n,fun|9=>9|3=>3|75=>133|76=>134|4=>4|5=>5|167=>249|37=>128|0=>0|85=>250|2=>2|168=>252|53=>196|175=>270|46=>45|210=>273|127=>199|145=>289|143=>287|21=>21|171=>255|173=>258|212=>276|51=>193|20=>20|213=>277|232=>302|233=>303|80=>137|n=>n,fun|15=>2|16=>3|17=>4|18=>6|19=>7|n=>n⟩
theorem Tryz.laysC172:Go.Proofs.LaysC.n172 Tryz.prog Tryz.laysC172_ren:={
 mixed:=by kernel_rfl
 f129:=Tryz.func222.trans (congrArg some Yaw)
 f171:=Tryz.func50.trans (congrArg some Yaw)
 f172:=Tryz.func128.trans (congrArg some Yaw)
 f205:=Tryz.func220.trans (congrArg some Yaw)
 f243:=Tryz.func131.trans (congrArg some Yaw)
 f244:=Tryz.func173.trans (congrArg some Yaw)
 f245:=Tryz.func174.trans (congrArg some Yaw)
 f246:=Tryz.func176.trans (congrArg some Yaw)
 f247:=Tryz.func199.trans (congrArg some Yaw)
 f279:=Tryz.func200.trans (congrArg some Yaw)
 f280:=Tryz.func201.trans (congrArg some Yaw)
 f281:=Tryz.func202.trans (congrArg some Yaw)
 f282:=Tryz.func203.trans (congrArg some Yaw)
 f283:=Tryz.func205.trans (congrArg some Yaw)
 f284:=Tryz.func206.trans (congrArg some Yaw)
 f285:=Tryz.func207.trans (congrArg some Yaw)
 f286:=Tryz.func208.trans (congrArg some Yaw)
 f287:=Tryz.func218.trans (congrArg some Yaw)
 f316:=Tryz.func219.trans (congrArg some Yaw)
 f317:=Tryz.func221.trans (congrArg some Yaw)
 f318:=Tryz.func223.trans (congrArg some Yaw)
 f319:=Tryz.func224.trans (congrArg some Yaw)
 f320:=Tryz.func225.trans (congrArg some Yaw)
 f321:=Tryz.func231.trans (congrArg some Yaw)
 f322:=Tryz.func232.trans (congrArg some Yaw)
 f337:=Tryz.func233.trans (congrArg some Yaw)
 f338:=Tryz.func234.trans (congrArg some Yaw)
 t0:=Tryz.underlying0
 a0:=Tryz.isAgg0
 z0:=Tryz.sizeOf0
 v0:=Tryz.zeroValue0
 t2:=Tryz.underlying2
 a2:=Tryz.isAgg2
 z2:=Tryz.sizeOf2
 v2:=Tryz.zeroValue2
 t3:=Tryz.underlying3
 a3:=Tryz.isAgg3
 z3:=Tryz.sizeOf3
 v3:=Tryz.zeroValue3
 t4:=Tryz.underlying4
 a4:=Tryz.isAgg4
 z4:=Tryz.sizeOf4
 v4:=Tryz.zeroValue4
 t5:=Tryz.underlying5
 a5:=Tryz.isAgg5
 z5:=Tryz.sizeOf5
 v5:=Tryz.zeroValue5
 t9:=Tryz.underlying9
 a9:=Tryz.isAgg9
 z9:=Tryz.sizeOf9
 v9:=Tryz.zeroValue9
 t20:=Tryz.underlying20
 a20:=Tryz.isAgg20
 z20:=Tryz.sizeOf20
 v20:=Tryz.zeroValue20
 t21:=Tryz.underlying21
 a21:=Tryz.isAgg21
 z21:=Tryz.sizeOf21
 v21:=Tryz.zeroValue21
 t37:=Tryz.underlying128
 a37:=Tryz.isAgg128
 z37:=Tryz.sizeOf128
 v37:=Tryz.zeroValue128
 t46:=Tryz.underlying45
 a46:=Tryz.isAgg45
 z46:=Tryz.sizeOf45
 v46:=Tryz.zeroValue45
 t51:=Tryz.underlying193
 a51:=Tryz.isAgg193
 z51:=Tryz.sizeOf193
 v51:=Tryz.zeroValue193
 t53:=Tryz.underlying196
 a53:=Tryz.isAgg196
 z53:=Tryz.sizeOf196
 v53:=Tryz.zeroValue196
 t75:=Tryz.underlying133
 a75:=Tryz.isAgg133
 z75:=Tryz.sizeOf133
 v75:=Tryz.zeroValue133
 t76:=Tryz.underlying134
 a76:=Tryz.isAgg134
 z76:=Tryz.sizeOf134
 v76:=Tryz.zeroValue134
 t85:=Tryz.underlying250
 a85:=Tryz.isAgg250
 z85:=Tryz.sizeOf250
 v85:=Tryz.zeroValue250
 t127:=Tryz.underlying199
 a127:=Tryz.isAgg199
 z127:=Tryz.sizeOf199
 v127:=Tryz.zeroValue199
 t143:=Tryz.underlying287
 a143:=Tryz.isAgg287
 z143:=Tryz.sizeOf287
 v143:=Tryz.zeroValue287
 t145:=Tryz.underlying289
 a145:=Tryz.isAgg289
 z145:=Tryz.sizeOf289
 v145:=Tryz.zeroValue289
 t167:=Tryz.underlying249
 a167:=Tryz.isAgg249
 z167:=Tryz.sizeOf249
 v167:=Tryz.zeroValue249
 t168:=Tryz.underlying252
 a168:=Tryz.isAgg252
 z168:=Tryz.sizeOf252
 v168:=Tryz.zeroValue252
 t171:=Tryz.underlying255
 a171:=Tryz.isAgg255
 z171:=Tryz.sizeOf255
 v171:=Tryz.zeroValue255
 t173:=Tryz.underlying258
 a173:=Tryz.isAgg258
 z173:=Tryz.sizeOf258
 v173:=Tryz.zeroValue258
 t175:=Tryz.underlying270
 a175:=Tryz.isAgg270
 z175:=Tryz.sizeOf270
 v175:=Tryz.zeroValue270
 t210:=Tryz.underlying273
 a210:=Tryz.isAgg273
 z210:=Tryz.sizeOf273
 v210:=Tryz.zeroValue273
 t212:=Tryz.underlying276
 a212:=Tryz.isAgg276
 z212:=Tryz.sizeOf276
 v212:=Tryz.zeroValue276
 t213:=Tryz.underlying277
 a213:=Tryz.isAgg277
 z213:=Tryz.sizeOf277
 t232:=Tryz.underlying302
 a232:=Tryz.isAgg302
 z232:=Tryz.sizeOf302
 v232:=Tryz.zeroValue302
 t233:=Tryz.underlying303
 a233:=Tryz.isAgg303
 z233:=Tryz.sizeOf303
 v233:=Tryz.zeroValue303
 g15:=by kernel_rfl
 g16:=by kernel_rfl
 g17:=by kernel_rfl
 g18:=by kernel_rfl
 g19:=by kernel_rfl
 t80:=Tryz.underlying137
 a80:=Tryz.isAgg137
 z80:=Tryz.sizeOf137
 v80:=Tryz.zeroValue137
 i0:=by kernel_rfl
 i2:=by kernel_rfl
 i3:=by kernel_rfl
 i4:=by kernel_rfl
 i5:=by kernel_rfl
 i9:=by kernel_rfl
 i20:=by kernel_rfl
 i21:=by kernel_rfl
 i37:=by kernel_rfl
 i46:=by kernel_rfl
 i51:=by kernel_rfl
 i53:=by kernel_rfl
 i75:=by kernel_rfl
 i76:=by kernel_rfl
 i80:=by kernel_rfl
 i85:=by kernel_rfl
 i127:=by kernel_rfl
 i143:=by kernel_rfl
 i145:=by kernel_rfl
 i167:=by kernel_rfl
 i168:=by kernel_rfl
 i171:=by kernel_rfl
 i173:=by kernel_rfl
 i175:=by kernel_rfl
 i210:=by kernel_rfl
 i212:=by kernel_rfl
 i232:=by kernel_rfl
 i233:=by kernel_rfl
 m15:=by kernel_rfl
 m16:=by kernel_rfl
 m17:=by kernel_rfl
 m18:=by kernel_rfl
 m19:=by kernel_rfl
 c0:=by kernel_rfl
 c2:=by kernel_rfl
 c3:=by kernel_rfl
 c4:=by kernel_rfl
 c5:=by kernel_rfl
 c9:=by kernel_rfl
 c20:=by kernel_rfl
 c21:=by kernel_rfl
 c37:=by kernel_rfl
 c46:=by kernel_rfl
 c51:=by kernel_rfl
 c53:=by kernel_rfl
 c75:=by kernel_rfl
 c76:=by kernel_rfl
 c80:=by kernel_rfl
 c85:=by kernel_rfl
 c127:=by kernel_rfl
 c143:=by kernel_rfl
 c145:=by kernel_rfl
 c167:=by kernel_rfl
 c168:=by kernel_rfl
 c171:=by kernel_rfl
 c173:=by kernel_rfl
 c175:=by kernel_rfl
 c210:=by kernel_rfl
 c212:=by kernel_rfl
 c213:=by kernel_rfl
 c232:=by kernel_rfl
 c233:=by kernel_rfl }
def Tryz.lays99_ren:Go.Shelf.Ren:=⟨fun|99=>20|206=>52|n=>n,fun|9=>9|4=>4|3=>3|n=>n,fun|n=>n⟩
theorem Tryz.lays99:Go.Proofs.Lays.n99 Tryz.prog Tryz.lays99_ren:={
 mixed:=by kernel_rfl
 f99:=Tryz.func20.trans (congrArg some Yaw)
 f206:=Tryz.func52.trans (congrArg some Yaw)
 t3:=Tryz.underlying3
 a3:=Tryz.isAgg3
 z3:=Tryz.sizeOf3
 v3:=Tryz.zeroValue3
 t4:=Tryz.underlying4
 a4:=Tryz.isAgg4
 z4:=Tryz.sizeOf4
 v4:=Tryz.zeroValue4
 t9:=Tryz.underlying9
 a9:=Tryz.isAgg9
 z9:=Tryz.sizeOf9
 v9:=Tryz.zeroValue9 }
open Go.RowKit Go.Lib in
theorem Tryz.strings_HasPrefix (s p:ByteArray) (w:World):
   Calls Tryz.prog 20 #[.string s,.string p] w fun e w'=>e= .returned (.bool (Lib.hasPrefix s.data.toList p.data.toList))∧w'=w:=Any.strings_HasPrefix Tryz.lays99 s p w
end Go.Proofs
namespace Go.Lx
theorem Xj3 (acc:Nat): ∀(s:List UInt8),acc≤s.foldl (fun n c=>10 * n+(c.toNat-48)) acc
 | []=>Nat.le_refl _
 | c::s=>Nat.le_trans Yan (Xj3 (10 * acc+(c.toNat-48)) s)
theorem parse_digits: ∀(s:List UInt8) (acc:Nat),(∀c∈s,digitB c=true)→acc<18446744073709551616→Lib.parseUint10 acc s=if s.foldl (fun n c=>10 * n+(c.toNat-48)) acc<18446744073709551616 then .ok (s.foldl (fun n c=>10 * n+(c.toNat-48)) acc) else .range
 | [],acc,_,ha=>by rw [Lib.parseUint10,List.foldl_nil,if_pos ha]
 | c::s,acc,h,ha=>by
   have hc:=h c Yb9
   unfold digitB inR at hc
   rw [decide_eq_true_iff] at hc
   rw [Lib.parseUint10,if_pos hc,List.foldl_cons]
   have hle:=Xj3 (10 * acc+(c.toNat-48)) s
   by_cases h1:1844674407370955162≤acc
   · rw [if_pos h1,if_neg Yan]
   · rw [if_neg h1]
     by_cases h2:18446744073709551616≤acc * 10+(c.toNat-48)
     · rw [if_pos h2,if_neg Yan]
     · rw [if_neg h2,Nat.mul_comm acc 10]
       exact parse_digits s _ (fun x hx=>h x (List.mem_cons_of_mem _ hx)) Yan
theorem Xcc {s:List UInt8} (h: ∀c∈s,digitB c=true) (hne:s≠[]):Lib.atoiAll s=if S7 s<9223372036854775808 then .ok (S7 s) else .range:=by
 cases s with
 | nil=>exact absurd rfl hne
 | cons c r=>
   have hc:=h c Yb9
   unfold digitB inR at hc
   rw [decide_eq_true_iff] at hc
   have hp:=parse_digits (c::r) 0 h Yao
   have hv:S7 (c::r)=(c::r).foldl (fun n c=>10 * n+(c.toNat-48)) 0:=rfl
   rw [←hv] at hp
   unfold Lib.atoiAll
   simp only
   rw [if_neg Yan]
   unfold Lib.parseMag
   rw [if_neg Yb9,hp]
   by_cases h1:S7 (c::r)<18446744073709551616
   · rw [if_pos h1]
     simp only
     by_cases h2:S7 (c::r)<9223372036854775808
     · rw [if_neg Yan,if_neg Yan,if_neg Yan,if_pos h2]
     · rw [if_pos ⟨by omega,by omega⟩,if_neg h2]
   · rw [if_neg h1,if_neg Yan]
theorem dec_lib: ∀n,Lib.decDigits n=decF n:=by
 refine Xa5 (fun n h=>?_) fun n h ih=>?_
 · rw [Lib.decDigits,dif_pos h,Uy h]
 · rw [Lib.decDigits,dif_neg h,Rf h,ih]
theorem Xmt (n:Nat):Lib.itoa n=decF n:=by
 unfold Lib.itoa
 rw [if_neg Yan,Int.toNat_natCast,dec_lib]
theorem join_lib: ∀l:List (List UInt8),Lib.join l [32]=joinF l
 | []=>rfl
 | [w]=>by rw [Lib.join_one];rfl
 | w::v::l=>by rw [Xbl,←join_lib (v::l),Lib.join_cons,Lib.join_cons];rfl
end Go.Lx
namespace Go.Proofs.YthdldeenpgeemaaGreatDoor
open Go Go.RowKit Go.Kx Go.Fr Go.Lx
def powG:Nat:=(Tryz.laysM171_ren).g 17
def rangeG:Nat:=(Tryz.laysC172_ren).g 16
theorem pow_named:Tryz.prog.globalNamed "internal/strconv.uint64pow10"=some powG:=by kernel_rfl
def Lab:Ent where
 foot:=[]
 rel F w:=F powG∧F rangeG∧powG<w.heap.size∧rangeG<w.heap.size∧Lib.TabIs Tryz.prog w "internal/strconv.uint64pow10" .u64 Lib.pow10Tab∧ ∃te pe,w.cell? ⟨rangeG,0,none⟩=some (.iface te pe)
 mono:=by
   rintro S S' w w' ⟨h1,h2,h3,h4,h5,te,pe,h6⟩ hk _
   obtain ⟨a1,a2⟩:=hk powG h1 h3
   obtain ⟨b1,b2⟩:=hk rangeG h2 h4
   have lt: ∀{g},g<w.heap.size→w'.heap[g]?=w.heap[g]?→g<w'.heap.size:=fun {g} h e=>by
     have:w.heap[g]?≠none:=by rw [Array.getElem?_eq_getElem h];simp
     rw [←e] at this
     exact Nat.lt_of_not_le fun h=>this (Array.getElem?_eq_none h)
   refine ⟨a1,b1,lt h3 a2,lt h4 b2,?_,te,pe,(World.cell?_of_block (w:=w) b2).trans h6⟩
   unfold Lib.TabIs World.var? at h5 ⊢
   rw [pow_named] at h5 ⊢
   simp only [Option.bind_some] at h5 ⊢
   rw [a2];exact h5
theorem Xh1 (n:Nat) (h:n≤9223372036854775807):FnC Tryz.prog 50 [exI .i64 (n:Int)] [Lab] (fun p loc=>p=exT (decF n)∧loc=[]):=by
 refine Xlj fun F w vals ht hA=>?_
 obtain ⟨v,rfl,rfl⟩:=Xkj hA
 refine (Tryz.strconv_Itoa (n:Int) Yan Yan w ht.2.2.2.2.1).mono ?_
 rintro e w' ⟨rfl,k,os,rfl⟩
 refine ⟨_,_,rfl,⟨rfl,rfl⟩,?_,?_⟩
 · show Value.string _=Value.string _
   rw [Xmt]
 · refine ⟨rfl,rfl,rfl,?_,fun j hj=>?_⟩
   · show w.heap.size≤(w.heap++os).size;simp
   · show (w.heap++os)[j]?=w.heap[j]?;exact Array.getElem?_append_left hj
theorem Xgu (s:List UInt8) (hd: ∀c∈s,digitB c=true) (hne:s≠[]) (hl:s.length≤65536) (hv:S7 s<9223372036854775808):FnC Tryz.prog 128 [exT s] [] (fun p loc=>p=tup [exI .i64 (S7 s:Int),ex .nilIface]∧loc=[]):=by
 refine Xfk fun F w vals h=>?_
 obtain ⟨v,rfl,rfl⟩:=Xkj h
 refine (Any.strconv_Atoi_ok Tryz.laysC172 ⟨s.toArray⟩ (by show s.toArray.size≤_;rw [List.size_toArray];omega) (S7 s) (by show Lib.atoiAll s=_;rw [Xcc hd hne,if_pos hv]) w).mono ?_
 rintro e w' ⟨rfl,hw⟩
 refine ⟨_,_,rfl,⟨rfl,rfl⟩,?_,?_⟩
 · exact ⟨_,rfl,.cons rfl (.cons rfl .nil)⟩
 · rcases hw with rfl|⟨t,rfl⟩
   · exact Below.refl _ _
   · exact Lib.bytesWorld_below w _ t
theorem Xc3 (s:List UInt8) (hd: ∀c∈s,digitB c=true) (hne:s≠[]) (hl:s.length≤65536) (hv: ¬S7 s<9223372036854775808):FnC Tryz.prog 128 [exT s] [Lab] (fun p loc=>(∃(n:Int) (N:Nat),p=tup [exI .i64 n,ex (.iface ((Tryz.laysC172_ren).t 168) (.pointer (some ⟨N,0,none⟩)))])∧loc=[]):=by
 refine Xlj fun F w vals ht h=>?_
 obtain ⟨v,rfl,rfl⟩:=Xkj h
 obtain ⟨-,-,-,-,-,te,pe,hc⟩:=ht
 refine (Any.strconv_Atoi_range Tryz.laysC172 ⟨s.toArray⟩ (by show s.toArray.size≤_;rw [List.size_toArray];omega) (by show Lib.atoiAll s=_;rw [Xcc hd hne,if_neg hv]) _ w hc (.inr ⟨_,_,rfl⟩)).mono ?_
 rintro e w' ⟨N,rfl,h1,h2,h3⟩
 refine ⟨_,_,rfl,⟨⟨Lib.atoiSat s,N,rfl⟩,rfl⟩,?_,h3⟩
 exact ⟨_,rfl,.cons rfl (.cons rfl .nil)⟩
theorem Xd3 (s t:List UInt8):FnC Tryz.prog 20 [exT s,exT t] [] (fun p loc=>p=exB (t.isPrefixOf s)∧loc=[]):=by
 refine Xfk fun F w vals h=>?_
 obtain ⟨v,u,rfl,rfl,rfl⟩:=h.two
 refine (Tryz.strings_HasPrefix ⟨s.toArray⟩ ⟨t.toArray⟩ w).mono ?_
 rintro e w' ⟨rfl,rfl⟩
 exact ⟨_,_,rfl,⟨rfl,rfl⟩,rfl,Below.refl _ _⟩
end Go.Proofs.YthdldeenpgeemaaGreatDoor
namespace Go.Fr
open Go.RowKit Go.Kx
end Go.Fr
namespace Go.Proofs.YthdldeenpgeemaaGreatDoor
open Go Go.RowKit Go.Kx Go.Fr Go.Lx
theorem Xmu (l:List (List UInt8)) (hl:l.length≤140737488355328) (hj:(joinF l).length≤140737488355328):FnC Tryz.prog 51 [isl eStr l,exT [32]] [] (fun p loc=>p=exT (joinF l)∧loc=[]):=by
 refine Xfk fun F w vals h=>?_
 obtain ⟨v,u,rfl,h1,h2⟩:=h.two
 obtain ⟨oa,n,c,rfl,hs⟩:=h1
 have h2:u= .string ⟨#[32]⟩:=h2
 subst h2
 obtain rfl:=hs.length
 have hlm:l.map (fun x:List UInt8=>(⟨x.toArray⟩:ByteArray).data.toList)=l:=by
   conv=>rhs;rw [←List.map_id l]
   rfl
 cases hl0:l with
 | nil=>
   subst hl0
   refine (Tryz.strings_Join_none oa c ⟨#[32]⟩ w).mono ?_
   rintro e w' ⟨rfl,rfl⟩
   exact ⟨_,_,rfl,⟨rfl,rfl⟩,rfl,Below.refl _ _⟩
 | cons x r=>
   rw [←hl0]
   obtain ⟨b,off,cs,rfl,-,hb,-,-,-⟩:=hs.elem 0 (by rw [hl0];simp)
   have hcells: ∀(j:Nat) y,(l.map fun x=>(⟨x.toArray⟩:ByteArray))[j]?=some y→w.cell? ⟨b,off+j,none⟩=some (.string y):=by
     intro j y hy
     rw [List.getElem?_map] at hy
     obtain ⟨z,hz,rfl⟩:=Option.map_eq_some_iff.1 hy
     obtain ⟨hjl,rfl⟩:=List.getElem?_eq_some_iff.1 hz
     obtain ⟨b',off',cs',e1,-,-,-,h4,h5⟩:=hs.elem j hjl
     injection e1 with e1
     injection e1 with e2 e3
     subst e2 e3
     have h6:=h4 0 Yao
     have e7:cs'=[.string ⟨l[j].toArray⟩]:=h5
     subst e7
     have:eStr.size=1:=rfl
     rw [this,Nat.mul_one,Nat.add_zero] at h6
     exact h6
   have hjn:Lib.join ((l.map fun x=>(⟨x.toArray⟩:ByteArray)).map (·.data.toList)) (⟨#[32]⟩:ByteArray).data.toList=joinF l:=by
     rw [List.map_map]
     show Lib.join (l.map (fun x:List UInt8=>(⟨x.toArray⟩:ByteArray).data.toList)) [32]=_
     rw [hlm,join_lib]
   have hJ:=Tryz.strings_Join b off c (l.map fun x=>⟨x.toArray⟩) ⟨#[32]⟩ w hcells hb (by rw [List.length_map];exact hl) (by rw [List.length_map];exact hs.cap) (by rw [hjn];exact hj)
   rw [hjn,List.length_map] at hJ
   refine hJ.mono ?_
   rintro e w' ⟨rfl,hb⟩
   exact ⟨_,_,rfl,⟨rfl,rfl⟩,rfl,hb⟩
def Xmv (b i:Nat) (s:List UInt8) (acc:List TokD):SP→List Ent→Prop:=fun _ loc=> ∃(n:Nat) (oa:Option Addr) (c:Nat) (acc2:List TokD),loc=scanL b (i+n) s oa c acc2∧1≤n∧i+n≤s.length∧acc2.length≤acc.length+1∧(T7 i (s.drop i)).map (acc++ ·)=(T7 (i+n) (s.drop (i+n))).map (acc2++ ·)
def Xmw (i:Nat) (s:List UInt8):List PanicEntry→List Ent→Prop:=fun ch loc=>T7 i (s.drop i)= .error i∧Xn4 83 i ch loc
theorem Xj4 (s:List UInt8):Xn3 [2,3,5] s=s.takeWhile partB:=by
 unfold Xn3
 congr 1
 funext c
 exact Sm (P:=fun c=>decide (Ue c∈([2,3,5]:List Int))=partB c) Yaa c
theorem Xi4 (s:List UInt8):Xn3 [3] s=s.takeWhile digitB:=by
 unfold Xn3
 congr 1
 funext c
 exact Sm (P:=fun c=>decide (Ue c∈([3]:List Int))=digitB c) Yaa c
theorem Xi5 (s:List UInt8):Xn3 [1] s=s.takeWhile spaceB:=by
 unfold Xn3
 congr 1
 funext c
 exact Sm (P:=fun c=>decide (Ue c∈([1]:List Int))=spaceB c) Yaa c
theorem Xj5 (b i:Nat) (s:List UInt8) (oa:Option Addr) (c:Nat) (acc:List TokD) (hi:i<s.length) (hmax:s.length≤65536) (hacc:acc.length≤i) (h:V3 s[i]=true):FnP Tryz.prog 43 [ex (.pointer (some ⟨b,0,none⟩))] (scanL b i s oa c acc) (Xmv b i s acc) (Xmw i s):=by
 obtain ⟨h1,h2,h3,h4⟩:=Xop hi h
 have hrun:=Xd1 b i s (ex (.slice oa acc.length c)) [2,3,5] Yan hmax
 rw [Xj4] at hrun
 have hadd:=Xd2 b i s ((s.drop i).takeWhile partB) ⟨1,(s.drop i).takeWhile partB,0,0⟩ oa c acc Yan Yan
 have hvb:V0 ⟨1,(s.drop i).takeWhile partB,0,0⟩=Ru ((s.drop i).takeWhile partB):=by
   unfold V0;rw [if_pos rfl,decide_eq_true rfl,Bool.and_true]
 rw [hvb] at hadd
 generalize (s.drop i).takeWhile partB=t at h1 h2 h3 h4 hrun hadd
 unfold scanL at hadd
 unfold scanL
 refine Wx Tryz.func43 rfl Tryz.ntmps43 rfl fun w0 F0 out=>?_
 (repeat' (first|(apply X4 5;refine Wj (k:=0) (E:=eI) (t:=4) [2,3,5] rfl rfl rfl rfl ?_ (hc:=by decide) (hby:=by decide))|(apply X4 10;refine Wc (.one 0 rfl (.one 0 rfl .nil)) Tryz.func127 rfl hadd rfl ?_ ?_)|refine Xe ?_|refine Xb ?_|refine Xc ?_|(apply Xn;exact Ydk;exact rfl)|(apply Xh;exact rfl;first|(apply Xi;(refine Xk (.one 0 rfl .nil) Tryz.func126 rfl hrun rfl ?_;rintro _ _ ⟨rfl,rfl⟩))|(apply X5;(refine Wi rfl Yac ?_);intro _))))
 · rintro p loc ⟨hv,oa2,c2,rfl⟩
   (repeat' (refine Xc ?_))
   exact ⟨.inl rfl,Rk (loc':=scanL b (i+t.length) s oa2 c2 (acc++[⟨1,t,0,i⟩])) rfl (by exact List.Sublist.refl _) ⟨t.length,oa2,c2,_,rfl,h3,h4,by simp,by rw [h1 hv,Xbm]⟩⟩
 · rintro ch loc ⟨hv,rfl,rfl⟩
   refine X2 (loc':=[]) (List.nil_sublist _) ?_
   exact ⟨h2 hv,rfl,rfl⟩
theorem Xi6 (b i:Nat) (s:List UInt8) (oa:Option Addr) (c:Nat) (acc:List TokD) (hi:i<s.length) (hmax:s.length≤65536) (h:spaceB s[i]=true):FnP Tryz.prog 42 [ex (.pointer (some ⟨b,0,none⟩))] (scanL b i s oa c acc) (Xmv b i s acc) (Xmw i s):=by
 obtain ⟨h1,h3,h4⟩:=Xmr hi h
 have hrun:=Xd1 b i s (ex (.slice oa acc.length c)) [1] Yan hmax
 rw [Xi5] at hrun
 generalize (s.drop i).takeWhile spaceB=t at h1 h3 h4 hrun
 refine FnC.toP _ ?_
 unfold scanL
 refine X3 Tryz.func42 rfl Tryz.ntmps42 rfl fun w0 F0 out=>?_
 refine V1 (fun _:Unit=>([],[row b 90 3 [exT s,exI .i64 ((i:Int)+(t.length:Int)),ex (.slice oa acc.length c)],vec (.slice oa acc.length c) 40 4 acc.length (acc.flatMap Qa)])) (fun _=>True) ?_ fun _ _=>?_
 · skip
   (refine Wt 5 rfl ?_)
   (try ((refine W8 Yaa (Wy (k:=0) (E:=eI) (t:=7) [1] rfl rfl rfl rfl (hc:=by decide) (hby:=by decide)) ?_)))
   (apply Xd 0 rfl Yaa rfl Yab Xa;(exact Xf rfl);exact rfl)
   (try ((refine W8 Yaa (Wy (k:=0) (E:=eI) (t:=7) [1] rfl rfl rfl rfl (hc:=by decide) (hby:=by decide)) ?_)))
   (apply Xd 1 rfl Yaa rfl Yab Xa;(exact Yat);exact rfl)
   (try ((refine W8 Yaa (Wy (k:=0) (E:=eI) (t:=7) [1] rfl rfl rfl rfl (hc:=by decide) (hby:=by decide)) ?_)))
   (apply Xd 2 rfl Yaa rfl Yab Xa;(exact Yad);exact rfl)
   (try ((refine W8 Yaa (Wy (k:=0) (E:=eI) (t:=7) [1] rfl rfl rfl rfl (hc:=by decide) (hby:=by decide)) ?_)))
   (apply Xd 4 rfl Yaa rfl Yab Xa;(exact Xf rfl);exact rfl)
   (try ((refine W8 Yaa (Wy (k:=0) (E:=eI) (t:=7) [1] rfl rfl rfl rfl (hc:=by decide) (hby:=by decide)) ?_)))
   (refine Uw (H1:=fun _=>True) (H2:=Tp []) 3 5 Yaa rfl Xa (fun _ _ _=>trivial) rfl Xa (fun h=>absurd h Yao) ?_ ?_)
   ·
     ((apply Tm (H:=fun _=>True);(exact Yai);exact rfl))
     (try ((refine W8 Yaa (Wy (k:=0) (E:=eI) (t:=7) [1] rfl rfl rfl rfl (hc:=by decide) (hby:=by decide)) ?_)))
     (refine Xu (H':=Tp []) 5 Yaa rfl Xa (fun h=>absurd h Yao) ?_)
     ((apply X5;(first|refine X6 rfl rfl ?_|refine Wi rfl Yac ?_|refine Ub rfl ?_);intro _))
     (try ((refine W8 Yaa (Wy (k:=0) (E:=eI) (t:=7) [1] rfl rfl rfl rfl (hc:=by decide) (hby:=by decide)) ?_)))
     (refine Xu (H':=Tp []) 6 Yaa rfl Xa (fun h=>absurd h Yao) ?_)
     ((apply Xi;(refine Xk (.one 0 rfl .nil) Tryz.func126 rfl hrun rfl ?_;rintro _ _ ⟨rfl,rfl⟩)))
     (try ((refine W8 Yaa (Wy (k:=0) (E:=eI) (t:=7) [1] rfl rfl rfl rfl (hc:=by decide) (hby:=by decide)) ?_)))
     (refine Xu (H':=fun _=>True) 7 Yaa rfl Xa (fun _ _ _=>trivial) ?_)
     ((apply Tm (H:=fun _=>True);(exact Yau);exact rfl))
     (try ((refine W8 Yaa (Wy (k:=0) (E:=eI) (t:=7) [1] rfl rfl rfl rfl (hc:=by decide) (hby:=by decide)) ?_)))
     (refine Xu (H':=fun _=>True) 8 Yaa rfl Xa (fun _ _ _=>trivial) ?_)
     ((apply Tm (H:=fun _=>True);(exact Ya7);exact rfl))
     (try ((refine W8 Yaa (Wy (k:=0) (E:=eI) (t:=7) [1] rfl rfl rfl rfl (hc:=by decide) (hby:=by decide)) ?_)))
     (refine Xu (H':=fun _=>True) 9 Yaa rfl Xa (fun _ _ _=>trivial) ?_)
     ((apply Tm (H:=fun _=>True);(exact Yat);exact rfl))
     (try ((refine W8 Yaa (Wy (k:=0) (E:=eI) (t:=7) [1] rfl rfl rfl rfl (hc:=by decide) (hby:=by decide)) ?_)))
     (refine Xu (H':=fun _=>True) 10 Yaa rfl Xa (fun _ _ _=>trivial) ?_)
     ((apply Tm (H:=fun _=>True);(exact Yad);exact rfl))
     (try ((refine W8 Yaa (Wy (k:=0) (E:=eI) (t:=7) [1] rfl rfl rfl rfl (hc:=by decide) (hby:=by decide)) ?_)))
     (refine Xu (H':=Tp []) 11 Yaa rfl Xa (fun h=>absurd h Yao) ?_)
     ((apply Xt;refine Xj (k:=0) (l0:=[]) rfl rfl rfl ?_))
     (try ((refine W8 Yaa (Wy (k:=0) (E:=eI) (t:=7) [1] rfl rfl rfl rfl (hc:=by decide) (hby:=by decide)) ?_)))
     refine X9 Yaa ?_
     exact Wo () trivial (Xg (by repeat (first|exact Xr|refine Xl rfl ?_)) (List.Sublist.refl _))
   ·
     ((apply X5;(first|refine X6 rfl rfl ?_|refine Wi rfl Yac ?_|refine Ub rfl ?_);intro _))
     (try ((refine W8 Yaa (Wy (k:=0) (E:=eI) (t:=7) [1] rfl rfl rfl rfl (hc:=by decide) (hby:=by decide)) ?_)))
     (refine Uw (H1:=fun _=>True) (H2:=Tp []) 3 6 Yaa rfl Xa (fun _ _ _=>trivial) rfl Xa (fun h=>absurd h Yao) ?_ ?_)
     ·
       ((apply Tm (H:=fun _=>True);(exact Yai);exact rfl))
       (try ((refine W8 Yaa (Wy (k:=0) (E:=eI) (t:=7) [1] rfl rfl rfl rfl (hc:=by decide) (hby:=by decide)) ?_)))
       (refine Xu (H':=Tp []) 6 Yaa rfl Xa (fun h=>absurd h Yao) ?_)
       ((apply Xi;(refine Xk (.one 0 rfl .nil) Tryz.func126 rfl hrun rfl ?_;rintro _ _ ⟨rfl,rfl⟩)))
       (try ((refine W8 Yaa (Wy (k:=0) (E:=eI) (t:=7) [1] rfl rfl rfl rfl (hc:=by decide) (hby:=by decide)) ?_)))
       (refine Xu (H':=fun _=>True) 7 Yaa rfl Xa (fun _ _ _=>trivial) ?_)
       ((apply Tm (H:=fun _=>True);(exact Yau);exact rfl))
       (try ((refine W8 Yaa (Wy (k:=0) (E:=eI) (t:=7) [1] rfl rfl rfl rfl (hc:=by decide) (hby:=by decide)) ?_)))
       (refine Xu (H':=fun _=>True) 8 Yaa rfl Xa (fun _ _ _=>trivial) ?_)
       ((apply Tm (H:=fun _=>True);(exact Ya7);exact rfl))
       (try ((refine W8 Yaa (Wy (k:=0) (E:=eI) (t:=7) [1] rfl rfl rfl rfl (hc:=by decide) (hby:=by decide)) ?_)))
       (refine Xu (H':=fun _=>True) 9 Yaa rfl Xa (fun _ _ _=>trivial) ?_)
       ((apply Tm (H:=fun _=>True);(exact Yat);exact rfl))
       (try ((refine W8 Yaa (Wy (k:=0) (E:=eI) (t:=7) [1] rfl rfl rfl rfl (hc:=by decide) (hby:=by decide)) ?_)))
       (refine Xu (H':=fun _=>True) 10 Yaa rfl Xa (fun _ _ _=>trivial) ?_)
       ((apply Tm (H:=fun _=>True);(exact Yad);exact rfl))
       (try ((refine W8 Yaa (Wy (k:=0) (E:=eI) (t:=7) [1] rfl rfl rfl rfl (hc:=by decide) (hby:=by decide)) ?_)))
       (refine Xu (H':=Tp []) 11 Yaa rfl Xa (fun h=>absurd h Yao) ?_)
       ((apply Xt;refine Xj (k:=0) (l0:=[]) rfl rfl rfl ?_))
       (try ((refine W8 Yaa (Wy (k:=0) (E:=eI) (t:=7) [1] rfl rfl rfl rfl (hc:=by decide) (hby:=by decide)) ?_)))
       refine X9 Yaa ?_
       exact Wo () trivial (Xg (by repeat (first|exact Xr|refine Xl rfl ?_)) (List.Sublist.refl _))
     ·
       ((apply Xi;(refine Xk (.one 0 rfl .nil) Tryz.func126 rfl hrun rfl ?_;rintro _ _ ⟨rfl,rfl⟩)))
       (try ((refine W8 Yaa (Wy (k:=0) (E:=eI) (t:=7) [1] rfl rfl rfl rfl (hc:=by decide) (hby:=by decide)) ?_)))
       (refine Uw (H1:=fun _=>True) (H2:=fun _=>True) 3 7 Yaa rfl Xa (fun _ _ _=>trivial) rfl Xa (fun _ _ _=>trivial) ?_ ?_)
       ·
         ((apply Tm (H:=fun _=>True);(exact Yai);exact rfl))
         (try ((refine W8 Yaa (Wy (k:=0) (E:=eI) (t:=7) [1] rfl rfl rfl rfl (hc:=by decide) (hby:=by decide)) ?_)))
         (refine Xu (H':=fun _=>True) 7 Yaa rfl Xa (fun _ _ _=>trivial) ?_)
         ((apply Tm (H:=fun _=>True);(exact Yau);exact rfl))
         (try ((refine W8 Yaa (Wy (k:=0) (E:=eI) (t:=7) [1] rfl rfl rfl rfl (hc:=by decide) (hby:=by decide)) ?_)))
         (refine Xu (H':=fun _=>True) 8 Yaa rfl Xa (fun _ _ _=>trivial) ?_)
         ((apply Tm (H:=fun _=>True);(exact Ya7);exact rfl))
         (try ((refine W8 Yaa (Wy (k:=0) (E:=eI) (t:=7) [1] rfl rfl rfl rfl (hc:=by decide) (hby:=by decide)) ?_)))
         (refine Xu (H':=fun _=>True) 9 Yaa rfl Xa (fun _ _ _=>trivial) ?_)
         ((apply Tm (H:=fun _=>True);(exact Yat);exact rfl))
         (try ((refine W8 Yaa (Wy (k:=0) (E:=eI) (t:=7) [1] rfl rfl rfl rfl (hc:=by decide) (hby:=by decide)) ?_)))
         (refine Xu (H':=fun _=>True) 10 Yaa rfl Xa (fun _ _ _=>trivial) ?_)
         ((apply Tm (H:=fun _=>True);(exact Yad);exact rfl))
         (try ((refine W8 Yaa (Wy (k:=0) (E:=eI) (t:=7) [1] rfl rfl rfl rfl (hc:=by decide) (hby:=by decide)) ?_)))
         (refine Xu (H':=Tp []) 11 Yaa rfl Xa (fun h=>absurd h Yao) ?_)
         ((apply Xt;refine Xj (k:=0) (l0:=[]) rfl rfl rfl ?_))
         (try ((refine W8 Yaa (Wy (k:=0) (E:=eI) (t:=7) [1] rfl rfl rfl rfl (hc:=by decide) (hby:=by decide)) ?_)))
         refine X9 Yaa ?_
         exact Wo () trivial (Xg (by repeat (first|exact Xr|refine Xl rfl ?_)) (List.Sublist.refl _))
       ·
         ((apply Tm (H:=fun _=>True);(exact Yau);exact rfl))
         (try ((refine W8 Yaa (Wy (k:=0) (E:=eI) (t:=7) [1] rfl rfl rfl rfl (hc:=by decide) (hby:=by decide)) ?_)))
         (refine Xu (H':=fun _=>True) 3 Yaa rfl Xa (fun _ _ _=>trivial) ?_)
         ((apply Tm (H:=fun _=>True);(exact Yai);exact rfl))
         (try ((refine W8 Yaa (Wy (k:=0) (E:=eI) (t:=7) [1] rfl rfl rfl rfl (hc:=by decide) (hby:=by decide)) ?_)))
         (refine Xu (H':=fun _=>True) 8 Yaa rfl Xa (fun _ _ _=>trivial) ?_)
         ((apply Tm (H:=fun _=>True);(exact Ya7);exact rfl))
         (try ((refine W8 Yaa (Wy (k:=0) (E:=eI) (t:=7) [1] rfl rfl rfl rfl (hc:=by decide) (hby:=by decide)) ?_)))
         (refine Xu (H':=fun _=>True) 9 Yaa rfl Xa (fun _ _ _=>trivial) ?_)
         ((apply Tm (H:=fun _=>True);(exact Yat);exact rfl))
         (try ((refine W8 Yaa (Wy (k:=0) (E:=eI) (t:=7) [1] rfl rfl rfl rfl (hc:=by decide) (hby:=by decide)) ?_)))
         (refine Xu (H':=fun _=>True) 10 Yaa rfl Xa (fun _ _ _=>trivial) ?_)
         ((apply Tm (H:=fun _=>True);(exact Yad);exact rfl))
         (try ((refine W8 Yaa (Wy (k:=0) (E:=eI) (t:=7) [1] rfl rfl rfl rfl (hc:=by decide) (hby:=by decide)) ?_)))
         (refine Xu (H':=Tp []) 11 Yaa rfl Xa (fun h=>absurd h Yao) ?_)
         ((apply Xt;refine Xj (k:=0) (l0:=[]) rfl rfl rfl ?_))
         (try ((refine W8 Yaa (Wy (k:=0) (E:=eI) (t:=7) [1] rfl rfl rfl rfl (hc:=by decide) (hby:=by decide)) ?_)))
         refine X9 Yaa ?_
         exact Wo () trivial (Xg (by repeat (first|exact Xr|refine Xl rfl ?_)) (List.Sublist.refl _))
 · simp only
   refine ⟨.inl rfl,Rk (loc':=scanL b (i+t.length) s oa c acc) rfl ?_ ⟨t.length,oa,c,acc,rfl,h3,h4,by omega,by rw [h1]⟩⟩
   unfold scanL
   rw [Int.natCast_add]
   exact List.Sublist.refl _
end Go.Proofs.YthdldeenpgeemaaGreatDoor
namespace Go.Fr
open Go.RowKit Go.Kx
theorem Xdg {P:Program} {t:TypeId} {ms:Array (String×TypeId)} (h:P.underlying t=some (.interface ms)):P.underlying t=some (.interface (P.methodsAt t)):=by
 rw [h];congr 2;unfold Program.methodsAt;rw [h]
section
variable {C:Cx} {S:(Nat→Prop)→World→World→Prop} {env:Env} {loc:List Ent} {dst:Option Tmp} {ty:TypeId} {pos:String} {af:Array Edge} {g:Option (Nat×Bool)}
theorem Xd4 {x:Operand} {t u:TypeId} {ms:Array (String×TypeId)} (hx:ev env x=some (ex .nilIface)) (ht:C.P.underlying t=some (.interface ms)):WT C S ⟨dst,.binOp .neq t x (.const .nilIface) u,ty,pos,af,g⟩ (exB false) env loc:=by
 constructor
 intro F a w hR
 have hv:a.eval x= .nilIface:=We hR hx
 refine ⟨_,rfl,fun w' _=>?_⟩
 have hn:=run_neq_nil_nil (P:=C.P) w' t (Xdg ht)
 have hc:a.eval (.const .nilIface)= .nilIface:=rfl
 generalize a.eval=ρ at hv hc ⊢
 simp only [execOp,hv,hc,eqGuard_nil_constR]
 generalize binOp .neq t .nilIface .nilIface=s at hn ⊢
 simp [hn,go_sem]
theorem Xgv {x:Operand} {t u T:TypeId} {v:Value} {ms:Array (String×TypeId)} (hx:ev env x=some (ex (.iface T v))) (ht:C.P.underlying t=some (.interface ms)):WT C S ⟨dst,.binOp .neq t x (.const .nilIface) u,ty,pos,af,g⟩ (exB true) env loc:=by
 constructor
 intro F a w hR
 have hv:a.eval x= .iface T v:=We hR hx
 refine ⟨_,rfl,fun w' _=>?_⟩
 have hn:=run_neq_held_nil (P:=C.P) w' t T v (Xdg ht)
 have hc:a.eval (.const .nilIface)= .nilIface:=rfl
 have hg:eqGuard .neq t x (.const .nilIface) (.iface T v) .nilIface=pure ():=by rfl
 generalize a.eval=ρ at hv hc ⊢
 simp only [execOp,hv,hc,hg]
 generalize binOp .neq t (.iface T v) .nilIface=s at hn ⊢
 simp [hn,go_sem]
end
end Go.Fr
namespace Go.Proofs.YthdldeenpgeemaaGreatDoor
open Go Go.RowKit Go.Kx Go.Fr Go.Lx
theorem Xgw (b i:Nat) (s:List UInt8) (oa:Option Addr) (c:Nat) (acc:List TokD) (hi:i<s.length) (hmax:s.length≤65536) (hacc:acc.length≤i) (h:digitB s[i]=true):FnP Tryz.prog 44 [ex (.pointer (some ⟨b,0,none⟩))] (scanL b i s oa c acc++[Lab]) (fun p loc=>Xmv b i s acc p loc) (Xmw i s):=by
 obtain ⟨h1,h2,h3,h4⟩:=Xj2 hi h
 have hrun:=Xd1 b i s (ex (.slice oa acc.length c)) [3] Yan hmax
 rw [Xi4] at hrun
 have htd: ∀c∈(s.drop i).takeWhile digitB,digitB c=true:=Xa4
 generalize (s.drop i).takeWhile digitB=t at h1 h2 h3 h4 hrun htd
 have hne:t≠[]:=fun e=>by rw [e] at h3;exact absurd h3 Yao
 have hnb:=Xms htd hne
 have hadd:=Xd2 b i s t ⟨2,[],S7 t,0⟩ oa c acc Yan Yan
 have hvb:V0 ⟨2,[],S7 t,0⟩=decide (S7 t≤1099511627776):=by
   unfold V0;rw [if_neg (show ¬(2:Int)=1 by decide),if_pos rfl,decide_eq_true rfl,Bool.true_and]
   exact decide_eq_decide.2 (show (0≤((S7 t:Nat):Int)∧((S7 t:Nat):Int)≤1099511627776)↔_ by omega)
 rw [hvb] at hadd
 unfold scanL at hadd
 unfold scanL
 refine Wx Tryz.func44 rfl Tryz.ntmps44 rfl fun w0 F0 out=>?_
 by_cases hv:S7 t<9223372036854775808
 · have hato:=Xgu t htd hne Yan hv
   have hito:=Xh1 (S7 t) Yan
   by_cases he:decF (S7 t)=t
   · rw [decide_eq_true he,Bool.and_true] at hnb
     rw [he] at hito
     clear he
     (repeat' (first|(apply X4 7;refine Wj (k:=0) (E:=eI) (t:=6) [3] rfl rfl rfl rfl ?_ (hc:=by decide) (hby:=by decide))|(apply X4 30;refine Wc (.one 0 rfl (.one 0 rfl .nil)) Tryz.func127 rfl hadd rfl ?_ ?_)|refine Xe ?_|refine Xb ?_|refine Xc ?_|(apply Xn;(first|exact Xf rfl|exact Xm rfl|exact Wd (b:=false) rfl (fun e=>by cases e) (fun _=>rfl)|exact Ybb|(apply Vx;exact Xd4 rfl rfl)|exact Yay);exact rfl)|(apply W0;exact rfl;exact rfl;exact rfl;(first|exact Xf rfl|(apply Vx;exact Xdj rfl rfl));exact rfl)|refine Xs ?_|(apply Xh;exact rfl;first|(apply Xi;first|(refine Xk (.one 0 rfl .nil) Tryz.func126 rfl hrun rfl ?_;rintro _ _ ⟨rfl,rfl⟩)|(refine Xq Tryz.func128 rfl hato rfl ?_;rintro _ _ ⟨rfl,rfl⟩))|(apply X5;(refine X6 rfl rfl ?_);intro _))|(apply Vm;exact rfl;exact rfl;exact rfl;exact rfl;(apply Xi;(refine Xk (.dup 2 rfl rfl .nil) Tryz.func50 rfl hito rfl ?_;rintro _ _ ⟨rfl,rfl⟩)))|(refine Xp rfl (fun hb=>?_) (fun hb=>?_)<;>(repeat (first|replace hb:=Xz hb|replace hb:=X0 hb|replace hb:=W5 hb|replace hb:=W6 hb))<;>(try (exfalso;contradiction)))))
     all_goals (try (exfalso;first|contradiction|omega))
     · rintro p loc ⟨hvv,oa2,c2,rfl⟩
       (repeat' (refine Xc ?_))
       exact ⟨.inl rfl,Rk (loc':=scanL b (i+t.length) s oa2 c2 (acc++[⟨2,[],S7 t,i⟩])) rfl (by exact .cons_cons _ (.cons_cons _ (List.nil_sublist _))) ⟨t.length,oa2,c2,_,rfl,h3,h4,by simp,by rw [h1 (hnb.trans hvv),Xbm]⟩⟩
     · rintro ch loc ⟨hvv,rfl,rfl⟩
       refine X2 (loc':=[]) (List.nil_sublist _) ?_
       exact ⟨h2 (hnb.trans hvv),rfl,rfl⟩
   · rw [decide_eq_false he,Bool.and_false] at hnb
     (repeat' (first|(apply X4 7;refine Wj (k:=0) (E:=eI) (t:=6) [3] rfl rfl rfl rfl ?_ (hc:=by decide) (hby:=by decide))|(refine Rt rfl ?_)|refine Xe ?_|refine Xb ?_|refine Xc ?_|(apply Xn;(first|exact Xf rfl|exact Xm rfl|exact Wd (b:=false) rfl (fun e=>by cases e) (fun _=>rfl)|exact Ybb|exact Yai|exact Yad|(apply Vx;exact Xd4 rfl rfl)|exact Yat|(apply Xcw;exact Xew rfl rfl));exact rfl)|(apply W0;exact rfl;exact rfl;exact rfl;(first|exact Xf rfl|(apply Vx;exact Xdj rfl rfl));exact rfl)|(apply Xh;exact rfl;first|(apply Xi;first|(refine Xk (.one 0 rfl .nil) Tryz.func126 rfl hrun rfl ?_;rintro _ _ ⟨rfl,rfl⟩)|(refine Xq Tryz.func128 rfl hato rfl ?_;rintro _ _ ⟨rfl,rfl⟩))|(apply X5;(refine X6 rfl rfl ?_);intro _))|(apply Vm;exact rfl;exact rfl;exact rfl;exact rfl;(apply Xi;(refine Xk (.dup 2 rfl rfl .nil) Tryz.func50 rfl hito rfl ?_;rintro _ _ ⟨rfl,rfl⟩)))|(refine Xp rfl (fun hb=>?_) (fun hb=>?_)<;>(repeat (first|replace hb:=Xz hb|replace hb:=X0 hb|replace hb:=W5 hb|replace hb:=W6 hb))<;>(try (exfalso;contradiction)))))
     all_goals (try (exfalso;first|contradiction|omega))
     all_goals exact Uu (X2 (loc':=[]) (List.nil_sublist _) ⟨h2 hnb,And.intro rfl rfl⟩)
 · have hato:=Xc3 t htd hne Yan hv
   rw [decide_eq_false (show ¬S7 t≤1099511627776 by omega),Bool.false_and] at hnb
   (repeat' (first|(apply X4 7;refine Wj (k:=0) (E:=eI) (t:=6) [3] rfl rfl rfl rfl ?_ (hc:=by decide) (hby:=by decide))|(refine Rt rfl ?_)|refine Xe ?_|refine Xb ?_|refine Xc ?_|(apply Xn;(first|exact Xf rfl|exact Xm rfl|exact Wd (b:=true) rfl (fun _=>rfl) (fun e=>by cases e)|exact Ybb|exact Yai|exact Yad|(apply Vx;exact Xgv rfl rfl)|exact Yat|(apply Xcw;exact Xew rfl rfl));exact rfl)|(refine Wv rfl rfl rfl rfl rfl ?_)|refine Xx rfl ?_|(apply Xh;exact rfl;first|(apply Xi;first|(refine Xk (.one 0 rfl .nil) Tryz.func126 rfl hrun rfl ?_;rintro _ _ ⟨rfl,rfl⟩)|(refine Xk (.dup 2 rfl rfl .nil) Tryz.func128 rfl hato rfl ?_;rintro _ _ ⟨⟨nn,NN,rfl⟩,rfl⟩))|(apply X5;(refine X6 rfl rfl ?_);intro _))))
   all_goals (try (exfalso;first|contradiction|omega))
   all_goals exact Uu (X2 (loc':=[]) (List.nil_sublist _) ⟨h2 hnb,And.intro rfl rfl⟩)
end Go.Proofs.YthdldeenpgeemaaGreatDoor
namespace Go.Lx
theorem Xi7 (s:List UInt8):Lib.indexByte s 10=if (s.takeWhile lineB).length=s.length then -1 else ((s.takeWhile lineB).length:Int):=by
 induction s with
 | nil=>rfl
 | cons c r ih=>
   rw [Lib.indexByte,List.takeWhile_cons]
   by_cases h:c=10
   · rw [if_pos (by simp [h]),show lineB c=false by rw [h];decide];simp
   · rw [if_neg (by simpa using h),Xl3 h,if_pos rfl,ih]
     have:=Qc (p:=lineB) r
     by_cases h2:(r.takeWhile lineB).length=r.length
     · rw [if_pos h2,if_pos Yao,if_pos (by simp [h2])]
     · rw [if_neg h2,if_neg (by first|(simp;done)|(simp;omega)),if_neg Yeh,List.length_cons];omega
end Go.Lx
namespace Go.Proofs.YthdldeenpgeemaaGreatDoor
open Go Go.RowKit Go.Kx Go.Fr Go.Lx
theorem Xc4 {s:List UInt8} {i:Nat} (hi:i<s.length):List.isPrefixOf [47,47] (s.drop i)=decide (s[i]=47∧(s.drop (i+1)).head?=some 47):=by
 rw [List.drop_eq_getElem_cons hi]
 cases hd:s.drop (i+1) with
 | nil=>simp [List.isPrefixOf]
 | cons d r=>
   simp only [List.isPrefixOf,List.head?_cons,Bool.and_true,Option.some.injEq]
   rw [Bool.eq_iff_iff]
   simp only [Bool.and_eq_true,beq_iff_eq,decide_eq_true_iff]
   exact ⟨fun ⟨a,b⟩=>⟨a.symm,b.symm⟩,fun ⟨a,b⟩=>⟨a.symm,b.symm⟩⟩
theorem one_byte {s:List UInt8} {i:Nat} (hi:i<s.length):(s.take (i+1)).drop i=[s[i]]:=by
 rw [List.take_succ_eq_append_getElem hi,List.drop_append,List.drop_eq_nil_of_le (by rw [List.length_take];omega),List.length_take,Nat.min_eq_left Yan,Nat.sub_self]
 rfl
theorem Xj6 (b i:Nat) (s:List UInt8) (oa:Option Addr) (c:Nat) (acc:List TokD) (hi:i<s.length) (hmax:s.length≤65536) (hacc:acc.length≤i) (h:Tu s[i]=true):FnP Tryz.prog 45 [ex (.pointer (some ⟨b,0,none⟩))] (scanL b i s oa c acc) (Xmv b i s acc) (Xmw i s):=by
 have hpre:=Xd3 (s.drop i) [47,47]
 rw [Xc4 hi] at hpre
 unfold scanL
 by_cases hc:s[i]=47∧(s.drop (i+1)).head?=some 47
 · rw [decide_eq_true hc] at hpre
   obtain ⟨h1,h3,h4⟩:=Xi3 hi hc.1 hc.2
   have hix:=Xai (s.drop i) 10
   rw [Xi7,List.length_drop] at hix
   clear hc
   generalize ((s.drop i).takeWhile lineB).length=L at h1 h3 h4 hix
   refine FnC.toP _ ?_
   refine X3 Tryz.func45 rfl Tryz.ntmps45 rfl fun w0 F0 out=>?_
   (repeat' (first|(apply Wa 0;refine Stop.out ?_)|refine Xe ?_))
   refine ⟨?_⟩
   (refine Vh ([row b 90 3 [exT s,exI .i64 (i:Int),ex (.slice oa acc.length c)]]) 10 rfl ?_)
   all_goals ((apply Xd 0 rfl Yaa rfl Yab Xa;(exact Xf rfl);exact rfl))
   all_goals ((apply Xd 1 rfl Yaa rfl Yab Xa;(exact Yat);exact rfl))
   all_goals ((apply Xd 2 rfl Yaa rfl Yab Xa;(exact Yad);exact rfl))
   all_goals ((apply Xv 3 rfl Yaa rfl Yaa Yab Xa;(exact Yai);exact rfl))
   all_goals ((apply Xd 4 rfl Yaa rfl Yab Xa;(exact Xf rfl);exact rfl))
   all_goals ((apply Xd 5 rfl Yaa rfl Yab Xa;(exact Yat);exact rfl))
   all_goals ((apply Xd 6 rfl Yaa rfl Yab Xa;(exact Yad);exact rfl))
   all_goals ((apply Xv 7 rfl Yaa rfl Yaa Yab Xa;(exact Yai);exact rfl))
   all_goals ((apply Xd 8 rfl Yaa rfl Yab Xa;((apply Qx;exact Xex rfl rfl rfl));exact rfl))
   all_goals ((apply Xu 9;exact Yaa;exact rfl;exact Xa;exact (fun _ _ h=>h);(apply Xi;(refine Xq Tryz.func20 rfl hpre rfl ?_;rintro _ _ ⟨rfl,rfl⟩))))
   all_goals (refine X9 Yaa ?_)
   by_cases hL:L=s.length-i
   · rw [if_pos hL] at hix
     (repeat' (first|(apply Wa 1;refine Stop.out ?_)|refine Xe ?_|refine Xx rfl ?_))
     refine ⟨?_⟩
     (refine Vh ([row b 90 3 [exT s,exI .i64 (i:Int),ex (.slice oa acc.length c)]]) 11 rfl ?_)
     all_goals ((apply Xd 0 rfl Yaa rfl Yab Xa;(exact Xf rfl);exact rfl))
     all_goals ((apply Xd 1 rfl Yaa rfl Yab Xa;(exact Yat);exact rfl))
     all_goals ((apply Xd 2 rfl Yaa rfl Yab Xa;(exact Yad);exact rfl))
     all_goals ((apply Xv 3 rfl Yaa rfl Yaa Yab Xa;(exact Yai);exact rfl))
     all_goals ((apply Xd 4 rfl Yaa rfl Yab Xa;(exact Xf rfl);exact rfl))
     all_goals ((apply Xd 5 rfl Yaa rfl Yab Xa;(exact Yat);exact rfl))
     all_goals ((apply Xd 6 rfl Yaa rfl Yab Xa;(exact Yad);exact rfl))
     all_goals ((apply Xv 7 rfl Yaa rfl Yaa Yab Xa;(exact Yai);exact rfl))
     all_goals ((apply Xd 8 rfl Yaa rfl Yab Xa;((apply Qx;exact Xex rfl rfl rfl));exact rfl))
     all_goals ((apply Xu 9;exact Yaa;exact rfl;exact Xa;exact (fun _ _ h=>h);(apply Xi;(refine Xq Tryz.func129 rfl hix rfl ?_;rintro _ _ ⟨rfl,rfl⟩))))
     all_goals ((apply Xd 10 rfl Yaa rfl Yab Xa;(exact Xm rfl);exact rfl))
     all_goals (refine X9 Yaa ?_)
     (repeat' (first|refine Xe ?_|refine Xb ?_|refine Xc ?_|(apply Xn;(first|exact Xf rfl|exact Yai|exact Yad|(apply Vx;exact Qy rfl rfl)|exact Yau|exact Yat);exact rfl)|refine Xw ?_|refine Xy rfl ?_|(apply Xh;exact rfl;(apply Xt;refine Xj (k:=0) (l0:=[]) rfl rfl rfl ?_))))
     all_goals (try (exfalso;first|contradiction|omega))
     refine ⟨.inr rfl,Rk (loc':=[row b 90 3 [exT s,exI .i64 (s.length:Int),ex (.slice oa acc.length c)],vec (.slice oa acc.length c) 40 4 acc.length (acc.flatMap Qa)]) rfl (by exact List.Sublist.refl _) ⟨L,oa,c,acc,?_,h3,h4,by omega,by rw [h1]⟩⟩
     rw [show i+L=s.length by omega];rfl
   · rw [if_neg hL] at hix
     (repeat' (first|(apply Wa 1;refine Stop.out ?_)|refine Xe ?_|refine Xx rfl ?_))
     refine ⟨?_⟩
     (refine Vh ([row b 90 3 [exT s,exI .i64 (i:Int),ex (.slice oa acc.length c)]]) 11 rfl ?_)
     all_goals ((apply Xd 0 rfl Yaa rfl Yab Xa;(exact Xf rfl);exact rfl))
     all_goals ((apply Xd 1 rfl Yaa rfl Yab Xa;(exact Yat);exact rfl))
     all_goals ((apply Xd 2 rfl Yaa rfl Yab Xa;(exact Yad);exact rfl))
     all_goals ((apply Xv 3 rfl Yaa rfl Yaa Yab Xa;(exact Yai);exact rfl))
     all_goals ((apply Xd 4 rfl Yaa rfl Yab Xa;(exact Xf rfl);exact rfl))
     all_goals ((apply Xd 5 rfl Yaa rfl Yab Xa;(exact Yat);exact rfl))
     all_goals ((apply Xd 6 rfl Yaa rfl Yab Xa;(exact Yad);exact rfl))
     all_goals ((apply Xv 7 rfl Yaa rfl Yaa Yab Xa;(exact Yai);exact rfl))
     all_goals ((apply Xd 8 rfl Yaa rfl Yab Xa;((apply Qx;exact Xex rfl rfl rfl));exact rfl))
     all_goals ((apply Xu 9;exact Yaa;exact rfl;exact Xa;exact (fun _ _ h=>h);(apply Xi;(refine Xq Tryz.func129 rfl hix rfl ?_;rintro _ _ ⟨rfl,rfl⟩))))
     all_goals ((apply Xd 10 rfl Yaa rfl Yab Xa;(exact Xm rfl);exact rfl))
     all_goals (refine X9 Yaa ?_)
     (repeat' (first|refine Xe ?_|refine Xb ?_|refine Xc ?_|(apply Xn;(first|exact Xf rfl|exact Yai|exact Yad|(apply Vx;first|exact Qy rfl rfl|exact S5 rfl rfl)|exact Yat);exact rfl)|refine Xw ?_|refine Xx rfl ?_|(apply Xh;exact rfl;(apply Xt;refine Xj (k:=0) (l0:=[]) rfl rfl rfl ?_))))
     all_goals (try (exfalso;first|contradiction|omega))
     refine ⟨.inr rfl,Rk (loc':=[row b 90 3 [exT s,exI .i64 ((i:Int)+(L:Int)),ex (.slice oa acc.length c)],vec (.slice oa acc.length c) 40 4 acc.length (acc.flatMap Qa)]) rfl (by exact List.Sublist.refl _) ⟨L,oa,c,acc,?_,h3,h4,by omega,by rw [h1]⟩⟩
     rw [←Int.natCast_add];rfl
 · rw [decide_eq_false hc] at hpre
   have h1:=Xoq hi h fun e e2=>hc ⟨e,e2⟩
   clear hc
   have hadd:=Xd2 b i s [s[i]] ⟨3,[s[i]],0,0⟩ oa c acc (by simp;omega) Yan
   have hvb:V0 ⟨3,[s[i]],0,0⟩=true:=by
     unfold V0;rw [if_neg (show ¬(3:Int)=1 by decide),if_neg (show ¬(3:Int)=2 by decide),if_pos rfl];simp [h]
   rw [hvb] at hadd
   rw [←one_byte hi] at hadd
   unfold scanL at hadd
   refine Wx Tryz.func45 rfl Tryz.ntmps45 rfl fun w0 F0 out=>?_
   (repeat' (first|(apply Wa 0;refine Stop.out ?_)|refine Xe ?_))
   refine ⟨Xho ?_⟩
   (refine Vh ([row b 90 3 [exT s,exI .i64 (i:Int),ex (.slice oa acc.length c)]]) 10 rfl ?_)
   all_goals ((apply Xd 0 rfl Yaa rfl Yb0 Xa;(exact Xf rfl);exact rfl))
   all_goals ((apply Xd 1 rfl Yaa rfl Yb0 Xa;(exact Yat);exact rfl))
   all_goals ((apply Xd 2 rfl Yaa rfl Yb0 Xa;(exact Yad);exact rfl))
   all_goals ((apply Xv 3 rfl Yaa rfl Yaa Yb0 Xa;(exact Yai);exact rfl))
   all_goals ((apply Xd 4 rfl Yaa rfl Yb0 Xa;(exact Xf rfl);exact rfl))
   all_goals ((apply Xd 5 rfl Yaa rfl Yb0 Xa;(exact Yat);exact rfl))
   all_goals ((apply Xd 6 rfl Yaa rfl Yb0 Xa;(exact Yad);exact rfl))
   all_goals ((apply Xv 7 rfl Yaa rfl Yaa Yb0 Xa;(exact Yai);exact rfl))
   all_goals ((apply Xd 8 rfl Yaa rfl Yb0 Xa;((apply Qx;exact Xex rfl rfl rfl));exact rfl))
   all_goals ((apply Xu 9;exact Yaa;exact rfl;exact Xa;exact (fun _ _ h=>h);(apply Xi;(refine Xq Tryz.func20 rfl hpre rfl ?_;rintro _ _ ⟨rfl,rfl⟩))))
   all_goals (refine X9 Yaa ?_)
   refine ⟨rfl,?_⟩
   (repeat' (first|(apply Wa 5;refine Stop.out ?_)|refine Xe ?_|refine Xs ?_|refine Xy rfl ?_))
   refine ⟨Xho ?_⟩
   (refine Vh ([row b 90 3 [exT s,exI .i64 (i:Int),ex (.slice oa acc.length c)]]) 15 rfl ?_)
   all_goals ((apply Xd 0 rfl Yaa rfl Yb0 Xa;(exact Xf rfl);exact rfl))
   all_goals ((apply Xd 1 rfl Yaa rfl Yb0 Xa;(exact Yat);exact rfl))
   all_goals ((apply Xd 2 rfl Yaa rfl Yb0 Xa;(exact Yad);exact rfl))
   all_goals ((apply Xv 3 rfl Yaa rfl Yaa Yb0 Xa;(exact Yai);exact rfl))
   all_goals ((apply Xd 4 rfl Yaa rfl Yb0 Xa;(exact Xf rfl);exact rfl))
   all_goals ((apply Xd 5 rfl Yaa rfl Yb0 Xa;(exact Yat);exact rfl))
   all_goals ((apply Xd 6 rfl Yaa rfl Yb0 Xa;(exact Yad);exact rfl))
   all_goals ((apply Xv 7 rfl Yaa rfl Yaa Yb0 Xa;(exact Yai);exact rfl))
   all_goals ((apply Xd 8 rfl Yaa rfl Yb0 Xa;(exact Xf rfl);exact rfl))
   all_goals ((apply Xd 9 rfl Yaa rfl Yb0 Xa;(exact Yat);exact rfl))
   all_goals ((apply Xd 10 rfl Yaa rfl Yb0 Xa;(exact Yad);exact rfl))
   all_goals ((apply Xv 11 rfl Yaa rfl Yaa Yb0 Xa;(exact Yai);exact rfl))
   all_goals ((apply Xd 12 rfl Yaa rfl Yb0 Xa;(exact Ya7);exact rfl))
   all_goals ((apply Xd 13 rfl Yaa rfl Yb0 Xa;(exact Ycc);exact rfl))
   all_goals ((apply Xd 14 rfl Yaa rfl Yb0 Xa;(exact Xm rfl);exact rfl))
   all_goals (refine X9 Yaa ?_)
   refine ⟨rfl,?_⟩
   (repeat' (first|(apply X4 60;refine Wc (.one 0 rfl (.one 0 rfl .nil)) Tryz.func127 rfl hadd rfl ?_ ?_)|refine Xb ?_|(apply Xn;(first|exact Xf rfl|exact Yay);exact rfl)))
   · rintro p loc ⟨-,oa2,c2,rfl⟩
     (repeat' (refine Xc ?_))
     exact ⟨.inl rfl,Rk (loc':=scanL b (i+1) s oa2 c2 (acc++[⟨3,[s[i]],0,i⟩])) rfl (by rw [one_byte hi];exact List.Sublist.refl _) ⟨1,oa2,c2,_,rfl,Nat.le_refl _,by omega,by simp,by rw [h1,Xbm]⟩⟩
   · rintro ch loc ⟨hvv,-⟩
     cases hvv
end Go.Proofs.YthdldeenpgeemaaGreatDoor
namespace Go.Fr
open Go.RowKit Go.Kx
theorem Xd5 {P:Program} {f:FuncId} {fn:Func} {r d d2 N:Nat} {ty1 ty2:TypeId} {pos1 pos2:String} {af1 af2:Array Edge} {ats:Array TypeId} {rest:Code} {args:List SP} {inn:List Ent} {u u2:FrameMode} {v:Value} {R:List Ent→Prop}
   (hf:P.funcs[f]?=some fn) (hb:fn.body=some (.seq (.region r #[⟨some d,.call ⟨.builtin .recover,#[],ats⟩,ty1,pos1,af1,none⟩,⟨some d2,.assign (.tmp d),ty2,pos2,af2,none⟩] false) rest)) (hN:fn.ntmps=N)
   (hrec: ∀(c0:Frame) (cs:List Frame),c0.mode=u→recoverD (c0::cs)=some (v,{ c0 with mode:=u2 }::cs)∨(recoverD (c0::cs)=none∧v= .nilIface∧{ c0 with mode:=u2 }=c0))
   (h: ∀w0 F0 out,WP ⟨P,w0,F0,Rj inn,out,N,[]⟩ rest (Xmp ⟨P,w0,F0,Rj inn,out,N,[]⟩ fn (fun _ loc=>R loc)) ((d2,ex v)::(d,ex v)::Xbu 0 args) inn)
   (hle:Nat.ble args.length N=true:=by rfl) (hd:Nat.blt d N=true:=by rfl) (hd2:Nat.blt d2 N=true:=by rfl):FnD P f args inn u (fun u' loc=>u'=u2∧R loc):=by
 intro F w vals out hG hA
 have hle':args.length≤N:=Nat.le_of_ble_eq_true hle
 have hsz:vals.length=args.length:=hA.len
 have hst: ∀(d:Nat) (hd:Nat.blt d N=true) {env:Env} {a:Act} (v:Value),a.tmps.size=N→Rel ⟨P,w,F,Rj inn,out,N,[]⟩ F env inn a w→Rel ⟨P,w,F,Rj inn,out,N,[]⟩ F ((d,ex v)::env) inn (a.put (some d) v) w:=by
   intro d hd env a v hs hR
   exact hR.put hd rfl
 refine callsD_of_wpS hf hb fun c0 cs hu=>?_
 have hR0:Rel ⟨P,w,F,Rj inn,out,N,[]⟩ F (Xbu 0 args) inn { tmps:=vals.toArray++Array.replicate (fn.ntmps-vals.toArray.size) undef,defers:=[] } w:=by
   refine ⟨hG,?_,?_,rfl,Ch.refl _ _,fun e he b hb=> .inr ⟨e,he,hb⟩,fun b hb _=>hb⟩
   · intro t p hp
     obtain ⟨j,rfl,hj⟩:=S3 hp
     obtain ⟨v,hv,hr⟩:=hA.at_ j p hj
     have hlt:j<vals.length:=(List.getElem?_eq_some_iff.1 hv).1
     have hx:(vals.toArray++Array.replicate (fn.ntmps-vals.toArray.size) undef).getD (0+j) undef=v:=by
       rw [Nat.zero_add,Array.getD_eq_getD_getElem?,Array.getElem?_append_left (by simpa using hlt)]
       simp [hv]
     rw [hx];exact hr
   · rw [hN];simp;omega
 generalize ({ tmps:=vals.toArray++Array.replicate (fn.ntmps-vals.toArray.size) undef,defers:=[] }:Act)=a0 at hR0 ⊢
 have hR1:=hst d hd v hR0.size hR0
 have hR2:=hst d2 hd2 v hR1.size hR1
 have hrun: ∀(a:Act) (w:World),(execOp a.eval ⟨some d,.call ⟨.builtin .recover,#[],ats⟩,ty1,pos1,af1,none⟩).run P w= .ok .recover w:=by
   intro a w
   generalize a.eval=ρ
   simp [go_sem]
 have hrun2: ∀(a:Act) (w:World),(execOp a.eval ⟨some d2,.assign (.tmp d),ty2,pos2,af2,none⟩).run P w= .ok (.value (a.eval (.tmp d))) w:=by
   intro a w
   generalize a.eval=ρ
   simp [execOp,go_sem]
 have hw1: ∀y,Region.wanted ⟨some d,.call ⟨.builtin .recover,#[],ats⟩,ty1,pos1,af1,none⟩ y=true:=fun y=>rfl
 have hw2: ∀y,Region.wanted ⟨some d2,.assign (.tmp d),ty2,pos2,af2,none⟩ y=true:=fun y=>rfl
 have hv:(a0.put (some d) v).eval (.tmp d)=v:=We hR1 (show ev _ (.tmp d)=some (ex v) by simp [ev,look])
 have hk:rest.wpS P (bodyPostS P fn c0 cs (fun e u' w'=> ∃v F' loc',e= .returned v∧(u'=u2∧R loc')∧Good F' (loc'++out) w'∧Ch (fun b=> ∃e∈inn,b∈e.foot) w w'∧(∀b,F b→b<w.heap.size→F' b)∧
     ∀e∈loc',∀b∈e.foot,w.heap.size≤b∨ ∃e∈inn,b∈e.foot)) ((a0.put (some d) v).put (some d2) v) ({ c0 with mode:=u2 }::cs) w:=by
   refine wpS_of_wp (Code.wp_mono ?_ ((h w F out).out F _ w hR2))
   rintro e a' w' ⟨F',env',loc',hR',hq⟩
   have key: ∀e,Xmp ⟨P,w,F,Rj inn,out,N,[]⟩ fn (fun _ loc=>R loc) e env' loc'→a'.defers=[]∧ ∃u',({ c0 with mode:=u2 }:Frame)::cs={ c0 with mode:=u' }::cs∧ ∃v,(results fn a'.tmps).run P w'= .ok v w'∧(∃v2 F' loc',Ending.returned v= .returned v2∧(u'=u2∧R loc')∧Good F' (loc'++out) w'∧Ch (fun b=> ∃e∈inn,b∈e.foot) w w'∧(∀b,F b→b<w.heap.size→F' b)∧
     ∀e∈loc',∀b∈e.foot,w.heap.size≤b∨ ∃e∈inn,b∈e.foot):=by
     intro e hq
     obtain ⟨F2,v2,p2,loc2,g1,g2,g3,g4,g5,g6⟩:=hq.2 F' a' w' hR'
     exact ⟨hR'.defers,u2,rfl,v2,g1,v2,F2,loc2,rfl,⟨rfl,g2⟩,g4,hR'.ch,g5,g6⟩
   rcases hq.1 with rfl|rfl
   · exact key _ hq
   · exact key _ hq
 refine wpS_seq (wpS_region ?_)
 show wpOpsS P _ _ [0,1] a0 (c0::cs) w
 have hlast: ∀cs',wpOpsS P #[⟨some d,.call ⟨.builtin .recover,#[],ats⟩,ty1,pos1,af1,none⟩,⟨some d2,.assign (.tmp d),ty2,pos2,af2,none⟩] (Exit.thenS (rest.wpS P (bodyPostS P fn c0 cs (fun e u' w'=> ∃v F' loc',e= .returned v∧(u'=u2∧R loc')∧Good F' (loc'++out) w'∧Ch (fun b=> ∃e∈inn,b∈e.foot) w w'∧(∀b,F b→b<w.heap.size→F' b)∧
     ∀e∈loc',∀b∈e.foot,w.heap.size≤b∨ ∃e∈inn,b∈e.foot))) (bodyPostS P fn c0 cs (fun e u' w'=> ∃v F' loc',e= .returned v∧(u'=u2∧R loc')∧Good F' (loc'++out) w'∧Ch (fun b=> ∃e∈inn,b∈e.foot) w w'∧(∀b,F b→b<w.heap.size→F' b)∧
     ∀e∈loc',∀b∈e.foot,w.heap.size≤b∨ ∃e∈inn,b∈e.foot))) [1] (a0.put (some d) v) cs' w↔rest.wpS P (bodyPostS P fn c0 cs (fun e u' w'=> ∃v F' loc',e= .returned v∧(u'=u2∧R loc')∧Good F' (loc'++out) w'∧Ch (fun b=> ∃e∈inn,b∈e.foot) w w'∧(∀b,F b→b<w.heap.size→F' b)∧
     ∀e∈loc',∀b∈e.foot,w.heap.size≤b∨ ∃e∈inn,b∈e.foot)) ((a0.put (some d) v).put (some d2) v) cs' w:=by
   intro cs'
   simp only [wpOpsS]
   rw [show (#[(⟨some d,.call ⟨.builtin .recover,#[],ats⟩,ty1,pos1,af1,none⟩:Oper),⟨some d2,.assign (.tmp d),ty2,pos2,af2,none⟩])[1]?=some ⟨some d2,.assign (.tmp d),ty2,pos2,af2,none⟩ from rfl]
   simp only [hw2,if_true,hrun2,hv,Oper.upon,Exit.thenS]
 unfold wpOpsS
 rw [show (#[(⟨some d,.call ⟨.builtin .recover,#[],ats⟩,ty1,pos1,af1,none⟩:Oper),⟨some d2,.assign (.tmp d),ty2,pos2,af2,none⟩])[0]?=some ⟨some d,.call ⟨.builtin .recover,#[],ats⟩,ty1,pos1,af1,none⟩ from rfl]
 simp only [hw1,if_true,hrun]
 rcases hrec c0 cs hu with hr|⟨hr,rfl,he⟩
 · rw [hr]
   exact (hlast _).2 hk
 · rw [hr]
   rw [he] at hk
   exact (hlast _).2 hk
theorem Xfg {v:Value} {older:List PanicEntry} (c0:Frame) (cs:List Frame) (h:c0.mode= .panicking ({ v,recovered:=false }::older)):recoverD (c0::cs)=some (v,{ c0 with mode:= .panicking ({ v,recovered:=true }::older) }::cs)∨(recoverD (c0::cs)=none∧v= .nilIface∧{ c0 with mode:= .panicking ({ v,recovered:=true }::older) }=c0):=by
 left;simp only [recoverD,h]
theorem Xh2 (c0:Frame) (cs:List Frame) (h:c0.mode= .returning):recoverD (c0::cs)=some (.nilIface,{ c0 with mode:= .returning }::cs)∨(recoverD (c0::cs)=none∧Value.nilIface= .nilIface∧{ c0 with mode:= .returning }=c0):=by
 right;refine ⟨?_,rfl,?_⟩
 · simp only [recoverD,h]
 · rw [←h]
end Go.Fr
namespace Go.Proofs.YthdldeenpgeemaaGreatDoor
open Go Go.Fr
instance ti1:TI Tryz.prog 1 1 8 .nilFunc:=⟨_,rfl,rfl,rfl,rfl⟩
instance ti22:TI Tryz.prog 22 1 8 .nilFunc:=⟨_,rfl,rfl,rfl,rfl⟩
instance ti32:TI Tryz.prog 32 1 8 .nilFunc:=⟨_,rfl,rfl,rfl,rfl⟩
instance ti33:TI Tryz.prog 33 1 8 .nilFunc:=⟨_,rfl,rfl,rfl,rfl⟩
instance ti34:TI Tryz.prog 34 1 8 .nilFunc:=⟨_,rfl,rfl,rfl,rfl⟩
instance ti35:TI Tryz.prog 35 1 8 .nilFunc:=⟨_,rfl,rfl,rfl,rfl⟩
instance ti37:TI Tryz.prog 37 1 8 .nilFunc:=⟨_,rfl,rfl,rfl,rfl⟩
instance ti38:TI Tryz.prog 38 1 8 .nilFunc:=⟨_,rfl,rfl,rfl,rfl⟩
instance ti43:TI Tryz.prog 43 1 8 .nilFunc:=⟨_,rfl,rfl,rfl,rfl⟩
instance ti44:TI Tryz.prog 44 1 8 .nilFunc:=⟨_,rfl,rfl,rfl,rfl⟩
instance ti46:TI Tryz.prog 46 1 8 .nilFunc:=⟨_,rfl,rfl,rfl,rfl⟩
instance ti47:TI Tryz.prog 47 1 8 .nilFunc:=⟨_,rfl,rfl,rfl,rfl⟩
instance ti48:TI Tryz.prog 48 1 8 .nilFunc:=⟨_,rfl,rfl,rfl,rfl⟩
instance ti49:TI Tryz.prog 49 1 8 .nilFunc:=⟨_,rfl,rfl,rfl,rfl⟩
instance ti55:TI Tryz.prog 55 1 8 .nilFunc:=⟨_,rfl,rfl,rfl,rfl⟩
instance ti57:TI Tryz.prog 57 1 8 .nilFunc:=⟨_,rfl,rfl,rfl,rfl⟩
instance ti60:TI Tryz.prog 60 1 8 .nilFunc:=⟨_,rfl,rfl,rfl,rfl⟩
instance ti61:TI Tryz.prog 61 1 8 .nilFunc:=⟨_,rfl,rfl,rfl,rfl⟩
instance ti62:TI Tryz.prog 62 1 8 .nilFunc:=⟨_,rfl,rfl,rfl,rfl⟩
instance ti63:TI Tryz.prog 63 1 8 .nilFunc:=⟨_,rfl,rfl,rfl,rfl⟩
instance ti67:TI Tryz.prog 67 1 8 .nilFunc:=⟨_,rfl,rfl,rfl,rfl⟩
instance ti68:TI Tryz.prog 68 1 8 .nilFunc:=⟨_,rfl,rfl,rfl,rfl⟩
instance ti71:TI Tryz.prog 71 1 8 .nilFunc:=⟨_,rfl,rfl,rfl,rfl⟩
instance ti75:TI Tryz.prog 75 1 8 .nilFunc:=⟨_,rfl,rfl,rfl,rfl⟩
instance ti76:TI Tryz.prog 76 1 8 .nilFunc:=⟨_,rfl,rfl,rfl,rfl⟩
instance ti77:TI Tryz.prog 77 1 8 .nilFunc:=⟨_,rfl,rfl,rfl,rfl⟩
instance ti81:TI Tryz.prog 81 1 8 .nilFunc:=⟨_,rfl,rfl,rfl,rfl⟩
instance ti82:TI Tryz.prog 82 1 8 .nilFunc:=⟨_,rfl,rfl,rfl,rfl⟩
instance ti84:TI Tryz.prog 84 1 8 .nilFunc:=⟨_,rfl,rfl,rfl,rfl⟩
instance ti91:TI Tryz.prog 91 1 8 .nilFunc:=⟨_,rfl,rfl,rfl,rfl⟩
instance ti92:TI Tryz.prog 92 1 8 .nilFunc:=⟨_,rfl,rfl,rfl,rfl⟩
instance ti94:TI Tryz.prog 94 1 8 .nilFunc:=⟨_,rfl,rfl,rfl,rfl⟩
instance ti95:TI Tryz.prog 95 1 8 .nilFunc:=⟨_,rfl,rfl,rfl,rfl⟩
instance ti98:TI Tryz.prog 98 1 8 .nilFunc:=⟨_,rfl,rfl,rfl,rfl⟩
instance ti102:TI Tryz.prog 102 1 8 .nilFunc:=⟨_,rfl,rfl,rfl,rfl⟩
instance ti103:TI Tryz.prog 103 1 8 .nilFunc:=⟨_,rfl,rfl,rfl,rfl⟩
instance ti104:TI Tryz.prog 104 1 8 .nilFunc:=⟨_,rfl,rfl,rfl,rfl⟩
instance ti107:TI Tryz.prog 107 1 8 .nilFunc:=⟨_,rfl,rfl,rfl,rfl⟩
instance ti108:TI Tryz.prog 108 1 8 .nilFunc:=⟨_,rfl,rfl,rfl,rfl⟩
instance ti109:TI Tryz.prog 109 1 8 .nilFunc:=⟨_,rfl,rfl,rfl,rfl⟩
instance ti110:TI Tryz.prog 110 1 8 .nilFunc:=⟨_,rfl,rfl,rfl,rfl⟩
instance ti111:TI Tryz.prog 111 1 8 .nilFunc:=⟨_,rfl,rfl,rfl,rfl⟩
instance ti112:TI Tryz.prog 112 1 8 .nilFunc:=⟨_,rfl,rfl,rfl,rfl⟩
instance ti114:TI Tryz.prog 114 1 8 .nilFunc:=⟨_,rfl,rfl,rfl,rfl⟩
instance ti115:TI Tryz.prog 115 1 8 .nilFunc:=⟨_,rfl,rfl,rfl,rfl⟩
instance ti116:TI Tryz.prog 116 1 8 .nilFunc:=⟨_,rfl,rfl,rfl,rfl⟩
instance ti117:TI Tryz.prog 117 1 8 .nilFunc:=⟨_,rfl,rfl,rfl,rfl⟩
instance ti118:TI Tryz.prog 118 1 8 .nilFunc:=⟨_,rfl,rfl,rfl,rfl⟩
instance ti120:TI Tryz.prog 120 1 8 .nilFunc:=⟨_,rfl,rfl,rfl,rfl⟩
instance ti124:TI Tryz.prog 124 1 8 .nilFunc:=⟨_,rfl,rfl,rfl,rfl⟩
instance ti126:TI Tryz.prog 126 1 8 .nilFunc:=⟨_,rfl,rfl,rfl,rfl⟩
instance ti131:TI Tryz.prog 131 1 8 .nilFunc:=⟨_,rfl,rfl,rfl,rfl⟩
instance ti135:TI Tryz.prog 135 1 8 .nilFunc:=⟨_,rfl,rfl,rfl,rfl⟩
instance ti136:TI Tryz.prog 136 1 8 .nilFunc:=⟨_,rfl,rfl,rfl,rfl⟩
instance ti137:TI Tryz.prog 137 1 8 .nilFunc:=⟨_,rfl,rfl,rfl,rfl⟩
instance ti145:TI Tryz.prog 145 1 8 .nilFunc:=⟨_,rfl,rfl,rfl,rfl⟩
instance ti147:TI Tryz.prog 147 1 8 .nilFunc:=⟨_,rfl,rfl,rfl,rfl⟩
instance ti148:TI Tryz.prog 148 1 8 .nilFunc:=⟨_,rfl,rfl,rfl,rfl⟩
instance ti149:TI Tryz.prog 149 1 8 .nilFunc:=⟨_,rfl,rfl,rfl,rfl⟩
instance ti151:TI Tryz.prog 151 1 8 .nilFunc:=⟨_,rfl,rfl,rfl,rfl⟩
instance ti153:TI Tryz.prog 153 1 8 .nilFunc:=⟨_,rfl,rfl,rfl,rfl⟩
instance ti155:TI Tryz.prog 155 1 8 .nilFunc:=⟨_,rfl,rfl,rfl,rfl⟩
instance ti157:TI Tryz.prog 157 1 8 .nilFunc:=⟨_,rfl,rfl,rfl,rfl⟩
instance ti159:TI Tryz.prog 159 1 8 .nilFunc:=⟨_,rfl,rfl,rfl,rfl⟩
instance ti161:TI Tryz.prog 161 1 8 .nilFunc:=⟨_,rfl,rfl,rfl,rfl⟩
instance ti162:TI Tryz.prog 162 1 8 .nilFunc:=⟨_,rfl,rfl,rfl,rfl⟩
instance ti163:TI Tryz.prog 163 1 8 .nilFunc:=⟨_,rfl,rfl,rfl,rfl⟩
instance ti165:TI Tryz.prog 165 1 8 .nilFunc:=⟨_,rfl,rfl,rfl,rfl⟩
instance ti166:TI Tryz.prog 166 1 8 .nilFunc:=⟨_,rfl,rfl,rfl,rfl⟩
instance ti169:TI Tryz.prog 169 1 8 .nilFunc:=⟨_,rfl,rfl,rfl,rfl⟩
instance ti170:TI Tryz.prog 170 1 8 .nilFunc:=⟨_,rfl,rfl,rfl,rfl⟩
instance ti171:TI Tryz.prog 171 1 8 .nilFunc:=⟨_,rfl,rfl,rfl,rfl⟩
instance ti172:TI Tryz.prog 172 1 8 .nilFunc:=⟨_,rfl,rfl,rfl,rfl⟩
instance ti173:TI Tryz.prog 173 1 8 .nilFunc:=⟨_,rfl,rfl,rfl,rfl⟩
instance ti174:TI Tryz.prog 174 1 8 .nilFunc:=⟨_,rfl,rfl,rfl,rfl⟩
instance ti175:TI Tryz.prog 175 1 8 .nilFunc:=⟨_,rfl,rfl,rfl,rfl⟩
instance ti176:TI Tryz.prog 176 1 8 .nilFunc:=⟨_,rfl,rfl,rfl,rfl⟩
instance ti177:TI Tryz.prog 177 1 8 .nilFunc:=⟨_,rfl,rfl,rfl,rfl⟩
instance ti178:TI Tryz.prog 178 1 8 .nilFunc:=⟨_,rfl,rfl,rfl,rfl⟩
instance ti179:TI Tryz.prog 179 1 8 .nilFunc:=⟨_,rfl,rfl,rfl,rfl⟩
instance ti180:TI Tryz.prog 180 1 8 .nilFunc:=⟨_,rfl,rfl,rfl,rfl⟩
instance ti181:TI Tryz.prog 181 1 8 .nilFunc:=⟨_,rfl,rfl,rfl,rfl⟩
instance ti182:TI Tryz.prog 182 1 8 .nilFunc:=⟨_,rfl,rfl,rfl,rfl⟩
instance ti183:TI Tryz.prog 183 1 8 .nilFunc:=⟨_,rfl,rfl,rfl,rfl⟩
instance ti184:TI Tryz.prog 184 1 8 .nilFunc:=⟨_,rfl,rfl,rfl,rfl⟩
instance ti187:TI Tryz.prog 187 1 8 .nilFunc:=⟨_,rfl,rfl,rfl,rfl⟩
instance ti190:TI Tryz.prog 190 1 8 .nilFunc:=⟨_,rfl,rfl,rfl,rfl⟩
instance ti191:TI Tryz.prog 191 1 8 .nilFunc:=⟨_,rfl,rfl,rfl,rfl⟩
instance ti192:TI Tryz.prog 192 1 8 .nilFunc:=⟨_,rfl,rfl,rfl,rfl⟩
instance ti195:TI Tryz.prog 195 1 8 .nilFunc:=⟨_,rfl,rfl,rfl,rfl⟩
instance ti198:TI Tryz.prog 198 1 8 .nilFunc:=⟨_,rfl,rfl,rfl,rfl⟩
instance ti200:TI Tryz.prog 200 1 8 .nilFunc:=⟨_,rfl,rfl,rfl,rfl⟩
instance ti201:TI Tryz.prog 201 1 8 .nilFunc:=⟨_,rfl,rfl,rfl,rfl⟩
instance ti202:TI Tryz.prog 202 1 8 .nilFunc:=⟨_,rfl,rfl,rfl,rfl⟩
instance ti203:TI Tryz.prog 203 1 8 .nilFunc:=⟨_,rfl,rfl,rfl,rfl⟩
instance ti204:TI Tryz.prog 204 1 8 .nilFunc:=⟨_,rfl,rfl,rfl,rfl⟩
instance ti205:TI Tryz.prog 205 1 8 .nilFunc:=⟨_,rfl,rfl,rfl,rfl⟩
instance ti206:TI Tryz.prog 206 1 8 .nilFunc:=⟨_,rfl,rfl,rfl,rfl⟩
instance ti207:TI Tryz.prog 207 1 8 .nilFunc:=⟨_,rfl,rfl,rfl,rfl⟩
instance ti208:TI Tryz.prog 208 1 8 .nilFunc:=⟨_,rfl,rfl,rfl,rfl⟩
instance ti209:TI Tryz.prog 209 1 8 .nilFunc:=⟨_,rfl,rfl,rfl,rfl⟩
instance ti210:TI Tryz.prog 210 1 8 .nilFunc:=⟨_,rfl,rfl,rfl,rfl⟩
instance ti211:TI Tryz.prog 211 1 8 .nilFunc:=⟨_,rfl,rfl,rfl,rfl⟩
instance ti212:TI Tryz.prog 212 1 8 .nilFunc:=⟨_,rfl,rfl,rfl,rfl⟩
instance ti213:TI Tryz.prog 213 1 8 .nilFunc:=⟨_,rfl,rfl,rfl,rfl⟩
instance ti214:TI Tryz.prog 214 1 8 .nilFunc:=⟨_,rfl,rfl,rfl,rfl⟩
instance ti215:TI Tryz.prog 215 1 8 .nilFunc:=⟨_,rfl,rfl,rfl,rfl⟩
instance ti217:TI Tryz.prog 217 1 8 .nilFunc:=⟨_,rfl,rfl,rfl,rfl⟩
instance ti219:TI Tryz.prog 219 1 8 .nilFunc:=⟨_,rfl,rfl,rfl,rfl⟩
instance ti220:TI Tryz.prog 220 1 8 .nilFunc:=⟨_,rfl,rfl,rfl,rfl⟩
instance ti223:TI Tryz.prog 223 1 8 .nilFunc:=⟨_,rfl,rfl,rfl,rfl⟩
instance ti224:TI Tryz.prog 224 1 8 .nilFunc:=⟨_,rfl,rfl,rfl,rfl⟩
instance ti225:TI Tryz.prog 225 1 8 .nilFunc:=⟨_,rfl,rfl,rfl,rfl⟩
instance ti226:TI Tryz.prog 226 1 8 .nilFunc:=⟨_,rfl,rfl,rfl,rfl⟩
instance ti227:TI Tryz.prog 227 1 8 .nilFunc:=⟨_,rfl,rfl,rfl,rfl⟩
instance ti228:TI Tryz.prog 228 1 8 .nilFunc:=⟨_,rfl,rfl,rfl,rfl⟩
instance ti229:TI Tryz.prog 229 1 8 .nilFunc:=⟨_,rfl,rfl,rfl,rfl⟩
instance ti230:TI Tryz.prog 230 1 8 .nilFunc:=⟨_,rfl,rfl,rfl,rfl⟩
instance ti232:TI Tryz.prog 232 1 8 .nilFunc:=⟨_,rfl,rfl,rfl,rfl⟩
instance ti233:TI Tryz.prog 233 1 8 .nilFunc:=⟨_,rfl,rfl,rfl,rfl⟩
instance ti234:TI Tryz.prog 234 1 8 .nilFunc:=⟨_,rfl,rfl,rfl,rfl⟩
instance ti235:TI Tryz.prog 235 1 8 .nilFunc:=⟨_,rfl,rfl,rfl,rfl⟩
instance ti237:TI Tryz.prog 237 1 8 .nilFunc:=⟨_,rfl,rfl,rfl,rfl⟩
instance ti238:TI Tryz.prog 238 1 8 .nilFunc:=⟨_,rfl,rfl,rfl,rfl⟩
instance ti239:TI Tryz.prog 239 1 8 .nilFunc:=⟨_,rfl,rfl,rfl,rfl⟩
instance ti240:TI Tryz.prog 240 1 8 .nilFunc:=⟨_,rfl,rfl,rfl,rfl⟩
instance ti241:TI Tryz.prog 241 1 8 .nilFunc:=⟨_,rfl,rfl,rfl,rfl⟩
instance ti242:TI Tryz.prog 242 1 8 .nilFunc:=⟨_,rfl,rfl,rfl,rfl⟩
instance ti243:TI Tryz.prog 243 1 8 .nilFunc:=⟨_,rfl,rfl,rfl,rfl⟩
instance ti245:TI Tryz.prog 245 1 8 .nilFunc:=⟨_,rfl,rfl,rfl,rfl⟩
instance ti246:TI Tryz.prog 246 1 8 .nilFunc:=⟨_,rfl,rfl,rfl,rfl⟩
instance ti247:TI Tryz.prog 247 1 8 .nilFunc:=⟨_,rfl,rfl,rfl,rfl⟩
instance ti248:TI Tryz.prog 248 1 8 .nilFunc:=⟨_,rfl,rfl,rfl,rfl⟩
instance ti251:TI Tryz.prog 251 1 8 .nilFunc:=⟨_,rfl,rfl,rfl,rfl⟩
instance ti253:TI Tryz.prog 253 1 8 .nilFunc:=⟨_,rfl,rfl,rfl,rfl⟩
instance ti254:TI Tryz.prog 254 1 8 .nilFunc:=⟨_,rfl,rfl,rfl,rfl⟩
instance ti256:TI Tryz.prog 256 1 8 .nilFunc:=⟨_,rfl,rfl,rfl,rfl⟩
instance ti257:TI Tryz.prog 257 1 8 .nilFunc:=⟨_,rfl,rfl,rfl,rfl⟩
instance ti259:TI Tryz.prog 259 1 8 .nilFunc:=⟨_,rfl,rfl,rfl,rfl⟩
instance ti260:TI Tryz.prog 260 1 8 .nilFunc:=⟨_,rfl,rfl,rfl,rfl⟩
instance ti262:TI Tryz.prog 262 1 8 .nilFunc:=⟨_,rfl,rfl,rfl,rfl⟩
instance ti263:TI Tryz.prog 263 1 8 .nilFunc:=⟨_,rfl,rfl,rfl,rfl⟩
instance ti267:TI Tryz.prog 267 1 8 .nilFunc:=⟨_,rfl,rfl,rfl,rfl⟩
instance ti268:TI Tryz.prog 268 1 8 .nilFunc:=⟨_,rfl,rfl,rfl,rfl⟩
instance ti269:TI Tryz.prog 269 1 8 .nilFunc:=⟨_,rfl,rfl,rfl,rfl⟩
instance ti271:TI Tryz.prog 271 1 8 .nilFunc:=⟨_,rfl,rfl,rfl,rfl⟩
instance ti274:TI Tryz.prog 274 1 8 .nilFunc:=⟨_,rfl,rfl,rfl,rfl⟩
instance ti275:TI Tryz.prog 275 1 8 .nilFunc:=⟨_,rfl,rfl,rfl,rfl⟩
instance ti278:TI Tryz.prog 278 1 8 .nilFunc:=⟨_,rfl,rfl,rfl,rfl⟩
instance ti279:TI Tryz.prog 279 1 8 .nilFunc:=⟨_,rfl,rfl,rfl,rfl⟩
instance ti283:TI Tryz.prog 283 1 8 .nilFunc:=⟨_,rfl,rfl,rfl,rfl⟩
instance ti285:TI Tryz.prog 285 1 8 .nilFunc:=⟨_,rfl,rfl,rfl,rfl⟩
instance ti286:TI Tryz.prog 286 1 8 .nilFunc:=⟨_,rfl,rfl,rfl,rfl⟩
instance ti290:TI Tryz.prog 290 1 8 .nilFunc:=⟨_,rfl,rfl,rfl,rfl⟩
instance ti298:TI Tryz.prog 298 1 8 .nilFunc:=⟨_,rfl,rfl,rfl,rfl⟩
instance ti301:TI Tryz.prog 301 1 8 .nilFunc:=⟨_,rfl,rfl,rfl,rfl⟩
instance ti313:TI Tryz.prog 313 1 8 .nilFunc:=⟨_,rfl,rfl,rfl,rfl⟩
end Go.Proofs.YthdldeenpgeemaaGreatDoor
namespace Go.Proofs.YthdldeenpgeemaaGreatDoor
open Go Go.RowKit Go.Kx Go.Fr Go.Lx
def Xps (b0 b1 b2:Nat) (p0 p1 p2:SP):List Ent:=[row b0 41 1 [p0],row b1 3 1 [p1],row b2 30 1 [p2]]
theorem Xj7 (b0 b1 b2:Nat) (p0 p1 p2:SP):FnD Tryz.prog 40 [ex (.pointer (some ⟨b0,0,none⟩)),ex (.pointer (some ⟨b1,0,none⟩)),ex (.pointer (some ⟨b2,0,none⟩))] (Xps b0 b1 b2 p0 p1 p2) .returning (fun u loc=>u= .returning∧loc=Xps b0 b1 b2 p0 p1 p2):=by
 unfold Xps
 refine Xd5 Tryz.func40 rfl Tryz.ntmps40 Xh2 fun w0 F0 out=>?_
 (repeat' (first|refine Xe ?_|refine Xb ?_|refine Xc ?_|(apply Xn;(first|exact Xf rfl|(apply Vx;exact Xd4 rfl rfl));exact rfl)|refine Xs ?_|refine Xy rfl ?_))
 exact ⟨.inl rfl,Rk rfl (List.Sublist.refl _) rfl⟩
theorem Xi8 (b0 b1 b2:Nat) (p0 p1 p2:SP) (i:Nat):FnD Tryz.prog 40 [ex (.pointer (some ⟨b0,0,none⟩)),ex (.pointer (some ⟨b1,0,none⟩)),ex (.pointer (some ⟨b2,0,none⟩))] (Xps b0 b1 b2 p0 p1 p2) (.panicking [{ v:= .iface 83 (.int .i64 (i:Int)),recovered:=false }]) (fun u loc=>u= .panicking [{ v:= .iface 83 (.int .i64 (i:Int)),recovered:=true }]∧loc=Xps b0 b1 b2 (ex (.slice none 0 0)) (exI .i64 (i:Int)) (exI .i64 30)):=by
 unfold Xps
 refine Xd5 Tryz.func40 rfl Tryz.ntmps40 Xfg fun w0 F0 out=>?_
 (repeat' (first|(apply Wa 2;refine Stop.out ?_)|refine Xe ?_|refine Xb ?_|refine Xc ?_|(apply Xn;(first|exact Xf rfl|(apply Vx;exact Xgv rfl rfl));exact rfl)|refine Xx rfl ?_))
 refine ⟨?_⟩
 (refine Wt 2 rfl ?_)
 (apply Xd 0 rfl Yaa rfl Yab Xa;(exact Xf rfl);exact rfl)
 (apply Xd 1 rfl Yaa rfl Yab Xa;((apply Xno;exact Xl0 rfl rfl));exact rfl)
 (refine Xu (H':=Tp []) 2 Yaa rfl Xa (fun h=>absurd h Yao) ?_)
 ((apply Xt;refine Xj (k:=0) (l0:=[]) rfl rfl rfl ?_))
 (refine Xu (H':=Tp []) 3 Yaa rfl Xa (fun h=>absurd h Yao) ?_)
 ((apply Xt;refine Xj (k:=1) (l0:=[]) rfl rfl rfl ?_))
 (refine Xu (H':=Tp []) 4 Yaa rfl Xa (fun h=>absurd h Yao) ?_)
 ((apply Xt;refine Xj (k:=2) (l0:=[]) rfl rfl rfl ?_))
 refine X9 Yaa ?_
 exact ⟨.inl rfl,Rk rfl (List.Sublist.refl _) rfl⟩
end Go.Proofs.YthdldeenpgeemaaGreatDoor
namespace Go.Proofs.YthdldeenpgeemaaGreatDoor
open Go Go.RowKit Go.Kx Go.Fr Go.Lx Go.ChangeShapes Go.WideShapes Go.ChangeAt
theorem Tryz.own:ownKnob Tryz.prog.godebug=none:=by kernel_rfl
theorem Tryz.laidOut:laidOutB Tryz.prog=true:=by kernel_rfl
theorem rdT:Reads Tryz.prog 9 eStr:=Xjs Tryz.underlying9
theorem rdI:Reads Tryz.prog 3 eI:=Xo9 Tryz.underlying3
theorem Qf {P:Program} {W:World} {x:String×DataW Unit} {rest:List (String×DataW Unit)} (h:laidMet P (x::rest) W):laidMet P rest W:=by
 obtain ⟨n,d⟩:=x
 obtain ⟨ps,⟨g,t,cs,fuel,p,q,_,_,_,_,h5,rfl⟩,hn,hc⟩:=h
 exact ⟨q,h5,(List.nodup_append.1 hn).2.1,fun b off hm=>hc b off (List.mem_append_right _ hm)⟩
theorem powT:(Tryz.prog.globals[powG]?).map (·.type)=some 276:=by kernel_rfl
theorem pow_data:(Rows.laid_internal_strconv_uint64pow10:DataW Unit)=Lib.tabData .u64 Lib.pow10Tab:=by kernel_rfl
theorem range_named:Tryz.prog.globalNamed "strconv.ErrRange"=some rangeG:=by kernel_rfl
theorem rangeT:(Tryz.prog.globals[rangeG]?).map (·.type)=some 133:=by kernel_rfl
theorem Xh3 {W:World} (h:laidMetH Tryz.prog [("math/bits.deBruijn32tab",Rows.laid_math_bits_deBruijn32tab),("math/bits.deBruijn64tab",Rows.laid_math_bits_deBruijn64tab),("internal/strconv.uint64pow10",Rows.laid_internal_strconv_uint64pow10),("strconv.ErrRange",Rows.laid_strconv_ErrRange),("strconv.ErrSyntax",Rows.laid_strconv_ErrSyntax)] W):Lab.rel (fun _=>True) W:=by
 have h1:laidMet Tryz.prog [("math/bits.deBruijn32tab",Rows.laid_math_bits_deBruijn32tab),("math/bits.deBruijn64tab",Rows.laid_math_bits_deBruijn64tab),("internal/strconv.uint64pow10",Rows.laid_internal_strconv_uint64pow10),("strconv.ErrRange",Rows.laid_strconv_ErrRange),("strconv.ErrSyntax",Rows.laid_strconv_ErrSyntax)] W:=h
 have h2:=Qf (Qf h1)
 have h4:=Qf h2
 rw [pow_data] at h2
 have h3:Lib.TabIs Tryz.prog W "internal/strconv.uint64pow10" .u64 Lib.pow10Tab:=Lib.tabIs_of_head pow_named powT Tryz.underlying276 Tryz.underlying196 Yaw Yaw h2
 have c1:=h3.cell pow_named 0 Yao
 obtain ⟨ps,⟨g,t,cs,fuel,p,q,g1,g2,g3,g4,-,-⟩,-⟩:=h4
 obtain rfl:=Option.some.inj (range_named.symm.trans g1)
 obtain rfl:=Option.some.inj (rangeT.symm.trans g2)
 obtain ⟨f2,u,v,e,-,-⟩:=iface_of_trod Tryz.underlying133 g4
 have c2:W.cell? ⟨rangeG,0,none⟩=some (.iface u v):=by
   have:=World.var?_cell range_named g3 0
   rw [show cs[0]?=cs.toList[0]? by simp,e] at this
   exact this
 exact ⟨trivial,trivial,(Xe3 c1).1,(Xe3 c2).1,h3,u,v,c2⟩
theorem Xj8 {P:Program} {f:FuncId} {args:List SP} {e0:Ent} (hfoot:e0.foot=[]) (h:FnC P f args [e0] (fun p loc=>p=exB true∧loc=[])) {w:World} {vals:List Value} (ht:e0.rel (fun _=>True) w) (hA:CellsR (fun _=>True) w args vals):Calls P f vals.toArray w fun e w'=>e= .returned (.bool true)∧Below w.heap.size w w':=by
 refine (h (fun _=>True) w vals [] ⟨fun e he=>(by simp at he;subst he;exact ht),fun e he=>(by simp at he;subst he;intro b hb;rw [hfoot] at hb;cases hb),(by simp [hfoot])⟩ hA).mono ?_
 rintro e w' ⟨v,F',p,loc',rfl,⟨rfl,rfl⟩,hp,_,hch,_,_⟩
 have hv:v= .bool true:=hp
 subst hv
 exact ⟨rfl,hch.os,hch.tape,hch.output,hch.size,fun k hk=>hch.block k hk fun ⟨e,he,hb⟩=>(by simp at he;subst he;rw [hfoot] at hb;cases hb)⟩
noncomputable def Xi9 (os:Os):World:=
 let w0:=World.holding Tryz.prog os ⟨#[],#[],[]⟩
 let n:=w0.heap.size
 let put (h:Array Obj) (g:Option Nat) (cs:Array Value):Array Obj:=h.modify (g.getD 0) fun
   | .cells _ t fr=> .cells cs t fr
   | o=>o
 let h1:=put w0.heap (Tryz.prog.globalNamed "math/bits.deBruijn32tab") #[.int .u8 0,.int .u8 1,.int .u8 28,.int .u8 2,.int .u8 29,.int .u8 14,.int .u8 24,.int .u8 3,.int .u8 30,.int .u8 22,.int .u8 20,.int .u8 15,.int .u8 25,.int .u8 17,.int .u8 4,.int .u8 8,.int .u8 31,.int .u8 27,.int .u8 13,.int .u8 23,.int .u8 21,.int .u8 19,.int .u8 16,.int .u8 7,.int .u8 26,.int .u8 12,.int .u8 18,.int .u8 6,.int .u8 11,.int .u8 5,.int .u8 10,.int .u8 9]
 let h2:=put h1 (Tryz.prog.globalNamed "math/bits.deBruijn64tab") #[.int .u8 0,.int .u8 1,.int .u8 56,.int .u8 2,.int .u8 57,.int .u8 49,.int .u8 28,.int .u8 3,.int .u8 61,.int .u8 58,.int .u8 42,.int .u8 50,.int .u8 38,.int .u8 29,.int .u8 17,.int .u8 4,.int .u8 62,.int .u8 47,.int .u8 59,.int .u8 36,.int .u8 45,.int .u8 43,.int .u8 51,.int .u8 22,.int .u8 53,.int .u8 39,.int .u8 33,.int .u8 30,.int .u8 24,.int .u8 18,.int .u8 12,.int .u8 5,.int .u8 63,.int .u8 55,.int .u8 48,.int .u8 27,.int .u8 60,.int .u8 41,.int .u8 37,.int .u8 16,.int .u8 46,.int .u8 35,.int .u8 44,.int .u8 21,.int .u8 52,.int .u8 32,.int .u8 23,.int .u8 11,.int .u8 54,.int .u8 26,.int .u8 40,.int .u8 15,.int .u8 34,.int .u8 20,.int .u8 31,.int .u8 10,.int .u8 25,.int .u8 14,.int .u8 19,.int .u8 9,.int .u8 13,.int .u8 8,.int .u8 7,.int .u8 6]
 let h3:=put h2 (Tryz.prog.globalNamed "internal/strconv.uint64pow10") #[.int .u64 1,.int .u64 10,.int .u64 100,.int .u64 1000,.int .u64 10000,.int .u64 100000,.int .u64 1000000,.int .u64 10000000,.int .u64 100000000,.int .u64 1000000000,.int .u64 10000000000,.int .u64 100000000000,.int .u64 1000000000000,.int .u64 10000000000000,.int .u64 100000000000000,.int .u64 1000000000000000,.int .u64 10000000000000000,.int .u64 100000000000000000,.int .u64 1000000000000000000,.int .u64 10000000000000000000]
 let h4:=put h3 (Tryz.prog.globalNamed "strconv.ErrRange") #[.iface 287 (.pointer (some ⟨n,0,none⟩))]
 let h5:=put h4 (Tryz.prog.globalNamed "strconv.ErrSyntax") #[.iface 287 (.pointer (some ⟨n+1,0,none⟩))]
 { w0 with heap:=(h5.push (.cells #[.string ⟨#[118,97,108,117,101,32,111,117,116,32,111,102,32,114,97,110,103,101]⟩] 289 (0,0))).push (.cells #[.string ⟨#[105,110,118,97,108,105,100,32,115,121,110,116,97,120]⟩] 289 (0,0)) }
end Go.Proofs.YthdldeenpgeemaaGreatDoor
