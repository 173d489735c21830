/- Chapter 13: what was parsed is printed so that it is parsed again. No program in sight. -/
import Derived.Test.YthdldeenpgeemaaGreatDoorPart9
import Derived.Test.YthdldeenpgeemaaGreatDoorPartA
import Derived.Test.YthdldeenpgeemaaGreatDoorPart2
import Derived.Test.YthdldeenpgeemaaGreatDoorPart5
import Derived.ProofKit
namespace Go.Sx
open Go.Lx Go.Fr
variable {α β σ:Type}
structure Up (f g:List TokD→Res α):Prop where
 into: ∀{ts x r},f ts= .ok (x,r)→g ts= .ok (x,r)
theorem Uf (f:List TokD→Res α):Up f f:=⟨fun h=>h⟩
theorem Xl6 (g:List TokD→Res α):Up (fun ts=> .error ts) g:=⟨fun h=>by cases h⟩
theorem Tf {f f':List TokD→Res α} {g g':α→List TokD→Res β} (hf:Up f f') (hg: ∀x,Up (g x) (g' x)):Up (bnd f g) (bnd f' g'):=⟨fun h=>by
 obtain ⟨x,u,h1,h2⟩:=Xea h
 rw [We (hf.into h1)];exact (hg x).into h2⟩
theorem Xc1 {test:List TokD→Bool} {f f' g g':List TokD→Res α} (hf:Up f f') (hg:Up g g'):Up (fun ts=>if test ts then f ts else g ts) (fun ts=>if test ts then f' ts else g' ts):=⟨fun {ts x r} h=>by
 cases hb:test ts with
 | true=>simp only [hb,if_true] at h ⊢;exact hf.into h
 | false=>simp only [hb] at h ⊢;exact hg.into h⟩
theorem Xc2 {ok ok':Bool} {f f':List TokD→Res α} (ho:ok=true→ok'=true) (h:Up f f'):Up (Xnv ok f) (Xnv ok' f'):=by
 cases ok
 · exact ⟨fun h=>by cases h⟩
 · rw [ho rfl];exact h
theorem Xl7 {test:List TokD→Bool} {item item':σ→List TokD→Res σ} (h: ∀s,Up (item s) (item' s)): ∀(n:Nat) (s:σ),Up (R4 test item n s) (R4 test item' n s)
 | 0,_=>Uf _
 | n+1,s=>⟨fun {ts x r} e=>by
   rw [R4] at e ⊢
   by_cases hb:test ts=true
   · rw [if_pos hb] at e ⊢
     cases he:item s ts with
     | error e'=>rw [he] at e;cases e
     | ok q=>
       obtain ⟨s',u⟩:=q
       rw [he] at e
       rw [(h s).into he]
       exact (Xl7 h n s').into e
   · rw [if_neg hb] at e ⊢;exact e⟩
theorem Xq7 {test:List TokD→Bool} {item item':σ→List TokD→Res σ} (h: ∀s,Up (item s) (item' s)) (s:σ):Up (Xcl test item s) (Xcl test item' s):=⟨fun {ts _ _} e=>(Xl7 h ts.length s).into e⟩
section
variable {tm tm' ex ex':List TokD→Res Ex}
theorem Xkj (h:Up tm tm') (x:Ex):Up (Tt tm x) (Tt tm' x):=Xc1 (Tf (Uf _) fun _=>Tf h fun _=>Uf _) (Tf (Uf _) fun _=>Tf h fun _=>Uf _)
theorem Xl8 (h:Up tm tm'):Up (Xb5 tm) (Xb5 tm'):=Tf h fun x=>Xq7 (Xkj h) x
theorem Xl9 (h:Up ex ex') (k:Int):Up (Xcg ex k) (Xcg ex' k):=Tf (Uf _) fun _=>Tf h fun _=>Tf (Uf _) fun _=>Tf h fun _=>Uf _
theorem Xma {ok ok':Bool} (ho:ok=true→ok'=true) (h:Up ex ex'):Up (Vp ok ex) (Vp ok' ex'):=
 Xc1 (Uf _) (Xc1 (Uf _) (Xc1 (Uf _) (Xc1 (Uf _) (Xc1 (Xc2 ho (Tf (Uf _) fun _=>Xl9 h 9)) (Xc1 (Xc2 ho (Tf (Uf _) fun _=>Xl9 h 10))
   (Xc1 (Xc2 ho (Tf (Uf _) fun _=>Tf h fun _=>Tf (Uf _) fun _=>Tf h fun _=>Tf (Uf _) fun _=>Tf h fun _=>Tf (Uf _) fun _=>Tf h fun _=>Uf _))
   (Xc1 (Xc2 ho (Tf (Uf _) fun _=>Tf h fun _=>Uf _)) (Uf _))))))))
theorem Xmb {ok ok':Bool} (ho:ok=true→ok'=true) (ht:Up tm tm') (hx:Up ex ex'):Up (Xkm ok tm ex) (Xkm ok' tm' ex'):=
 Xc1 (Tf (Uf _) fun _=>Xc1 (Xc2 ho (Tf (Uf _) fun _=>Tf ht fun _=>Uf _)) (Uf _)) (Xma ho hx)
end
theorem up_termN: ∀n,Up (termN n) (termN (n+1))
 | 0=>Xmb (fun h=>by cases h) (Xl6 _) (Xl6 _)
 | n+1=>Xmb (fun h=>h) (up_termN n) (Xl8 (up_termN n))
structure Yl (f:List TokD→Res α) (P:α→Nat→Prop):Prop where
 into: ∀{ts x r},(∀t∈ts,V7 t=true)→f ts= .ok (x,r)→ ∃c,ts=c++r∧P x c.length
theorem Xpb (w:List UInt8) (z:List TokD):want w (tkS w::z)= .ok ((),z):=by unfold want;rw [if_pos (by unfold isT;simp [tkS])];rfl
theorem Xe3 (v w:List UInt8) (z:List TokD):isT v (tkS w::z)=decide (w=v):=by show (decide ((3:Int)≠2)&&decide (w=v))=_;rw [show decide ((3:Int)≠2)=true by decide,Bool.true_and]
theorem Xr7 (v w:List UInt8) (z:List TokD):isT v (tkW w::z)=decide (w=v):=by show (decide ((1:Int)≠2)&&decide (w=v))=_;rw [show decide ((1:Int)≠2)=true by decide,Bool.true_and]
def Xr8 (z:List TokD):Prop:=isT sSlash z=false∧isT sStar z=false
theorem Inert.sl {z:List TokD} (h:Inert z):Xr8 z:=h.2.2
abbrev prt (x:Ex):List TokD:=Xah (x.kind,exT' x)
def Xr9 (x:Ex):Prop:=x.kind=6∨x.kind=7
instance {x:Ex}:Decidable (Xr9 x):=inferInstanceAs (Decidable (_∨_))
def TOk (n:Nat) (x:Ex):Prop:= ∀z,Xr8 z→termN n (prt x++z)= .ok (x,z)
inductive GOk (n:Nat):Ex→Prop
 | term {x:Ex} (h: ¬Xr9 x) (ht:TOk n x):GOk n x
 | sum {k:Int} {a y:Ex} (h:k=6∨k=7) (ha:GOk n a) (ht:TOk n y):GOk n (.mk k [] 0 0 [a,y])
theorem TOk.up {n:Nat} {x:Ex} (h:TOk n x):TOk (n+1) x:=fun z hz=>(up_termN n).into (h z hz)
theorem GOk.up {n:Nat} {x:Ex} (h:GOk n x):GOk (n+1) x:=by
 induction h with
 | term h ht=>exact .term h ht.up
 | sum h _ ht ih=>exact .sum h ih ht.up
theorem Xq8 {x:Ex} (h: ¬Xr9 x):prt x=exT' x:=by unfold prt Xah;rw [if_neg (show ¬((x.kind,exT' x).1=6∨(x.kind,exT' x).1=7) from h)]
theorem Xog (a y:Ex):exT' (.mk 6 [] 0 0 [a,y])=exT' a++tkS sPlus::prt y:=by rw [Xhj];rfl
theorem Xoh (a y:Ex):exT' (.mk 7 [] 0 0 [a,y])=exT' a++tkS sMinus::prt y:=by rw [Xhj];rfl
theorem GOk.run {n:Nat} {x:Ex} (h:GOk n x): ∀z,Xr8 z→T4 n (exT' x++z)=Xcl addT (Tt (termN n)) x z:=by
 induction h with
 | @term x h ht=>
   intro z hz
   have:=ht z hz
   rw [Xq8 h] at this
   unfold T4 Xb5
   rw [We this]
 | @sum k a y h _ ht ih=>
   intro z hz
   rcases h with rfl|rfl
   · rw [Xog,List.append_assoc,List.cons_append,ih _ ⟨by rw [Xe3];decide,by rw [Xe3];decide⟩,Sr rfl (Ss (R7 n)),if_pos (by unfold addT;rw [Xe3];rfl)]
     have:Tt (termN n) a (tkS sPlus::(prt y++z))= .ok (.mk 6 [] 0 0 [a,y],z):=by
       unfold Tt
       rw [if_pos (by rw [Xe3];decide),We (Xpb _ _),We (ht z hz)]
       rfl
     rw [We this]
   · rw [Xoh,List.append_assoc,List.cons_append,ih _ ⟨by rw [Xe3];decide,by rw [Xe3];decide⟩,Sr rfl (Ss (R7 n)),if_pos (by unfold addT;rw [Xe3,Xe3];decide)]
     have:Tt (termN n) a (tkS sMinus::(prt y++z))= .ok (.mk 7 [] 0 0 [a,y],z):=by
       unfold Tt
       rw [if_neg (by rw [Xe3];decide),We (Xpb _ _),We (ht z hz)]
       rfl
     rw [We this]
theorem GOk.ok {n:Nat} {x:Ex} (h:GOk n x) {z:List TokD} (hz:Inert z):T4 n (exT' x++z)= .ok (x,z):=by
 rw [h.run z hz.sl,Sr rfl (Ss (R7 n)),if_neg (by rw [Xm2 z hz];decide)];rfl
def Va (l:List TokD):Prop:= ∀t∈l,V7 t=true
structure PT (n:Nat) (x:Ex) (k:Nat):Prop where
 t:TOk n x
 g:GOk n x
 v:Va (exT' x)
 l:(prt x).length≤k
structure PE (n:Nat) (x:Ex) (k:Nat):Prop where
 g:GOk n x
 v:Va (exT' x)
 l:(exT' x).length≤k
section
variable {ok:Bool} {ex:List TokD→Res Ex}
end
end Go.Sx
namespace Go.Sx
open Go.Lx Go.Fr
variable {α β σ:Type}
structure PI (item:List TokD→Res α) (tk:α→List TokD) (x:α) (k:Nat):Prop where
 t: ∀l z,Uv item l (tk x++z)= .ok (l++[x],z)
 v:Va (tk x)
 l:(tk x).length≤k+1
structure PL (item:List TokD→Res α) (tk:α→List TokD) (xs:List α) (k:Nat):Prop where
 t: ∀x∈xs,∀l z,Uv item l (tk x++z)= .ok (l++[x],z)
 v:Va (xs.flatMap tk)
 l:(xs.flatMap tk).length≤k
def cT (tk:α→List TokD):List α→List TokD
 | []=>[]
 | x::l=>tk x++l.flatMap fun y=>tkS sComma::tk y
structure PC (item:List TokD→Res α) (tk:α→List TokD) (xs:List α) (k:Nat):Prop where
 ne:xs≠[]
 t: ∀x∈xs,∀z,item (tk x++z)= .ok (x,z)
 v:Va (cT tk xs)
 l:(cT tk xs).length≤k
structure P1 (item:List TokD→Res α) (tk:α→List TokD) (x:α) (k:Nat):Prop where
 t: ∀z,item (tk x++z)= .ok (x,z)
 v:Va (tk x)
 l:(tk x).length≤k
def HW (ws:List (List UInt8)) (u:List TokD):Prop:=u=[]∨ ∃w∈ws,∃v,u=tkW w::v
theorem HW.app {ws vs:List (List UInt8)} {u v:List TokD} (h:HW ws u) (k:HW vs v):HW (ws++vs) (u++v):=by
 rcases h with rfl|⟨w,hw,u',rfl⟩
 · rcases k with rfl|⟨w,hw,v',rfl⟩
   · exact .inl rfl
   · exact .inr ⟨w,List.mem_append_right _ hw,v',rfl⟩
 · exact .inr ⟨w,List.mem_append_left _ hw,u'++v,rfl⟩
theorem HW.no {ws:List (List UInt8)} {u:List TokD} (h:HW ws u) {w:List UInt8} (hw:w∉ws):isT w u=false:=by
 rcases h with rfl|⟨w',hw',v,rfl⟩
 · rfl
 · rw [Xr7];simp only [decide_eq_false_iff_not];rintro rfl;exact hw hw'
end Go.Sx
namespace Go.Sx
open Go.Lx Go.Fr
variable {α β σ:Type}
def Xq9 (f:Int) (t:TokD):Int:=if t.text=wRound∧t.kind=1∧f=0 then -1 else f
def Xra (i:Nat) (f:Int) (t:TokD):Int:=if t.text=wScore∧t.kind=1∧f= -1 then (i:Int)+1 else f
def Xsa (i:Nat) (f u:Int) (t:TokD):Int:=if (t.text=sSemi∨t.text=wTie)∧0<f∧u=0 then (i:Int) else u
def Xsb (i:Nat) (s:Int×Int) (t:TokD):Int×Int:=(Xra i (Xq9 s.1 t) t,Xsa i (Xra i (Xq9 s.1 t) t) s.2 t)
def scanL:Nat→Int×Int→List TokD→Int×Int
 | _,s,[]=>s
 | i,s,t::l=>scanL (i+1) (Xsb i s t) l
end Go.Sx
namespace Go.Sx
open Go.Lx Go.Fr
end Go.Sx
namespace Go.Proofs.YthdldeenpgeemaaGreatDoor
open Go Go.RowKit Go.Kx Go.Fr Go.Lx Go.Sx
end Go.Proofs.YthdldeenpgeemaaGreatDoor
namespace Go.Sx
open Go.Lx Go.Fr
end Go.Sx
namespace Go.Proofs.YthdldeenpgeemaaGreatDoor
open Go Go.RowKit Go.Kx Go.Fr Go.Lx Go.Sx
end Go.Proofs.YthdldeenpgeemaaGreatDoor
namespace Go.Sx
open Go.Lx Go.Fr
end Go.Sx
namespace Go.Proofs.YthdldeenpgeemaaGreatDoor
open Go Go.RowKit Go.Kx Go.Fr Go.Lx Go.Sx
end Go.Proofs.YthdldeenpgeemaaGreatDoor
namespace Go.Proofs.YthdldeenpgeemaaGreatDoor
open Go Go.RowKit Go.Kx Go.Fr
end Go.Proofs.YthdldeenpgeemaaGreatDoor
namespace Go.Proofs.YthdldeenpgeemaaGreatDoor
open Go Go.RowKit Go.Kx Go.Fr
theorem Xa2 {α:Type} {l:List α} {p:α→Bool} {i:Nat} (h:i<l.length):(l.take (i+1)).all p=((l.take i).all p&&p l[i]):=by
 rw [List.take_succ_eq_append_getElem h,List.all_append];simp
theorem Xa3 {α:Type} {l:List α} {p:α→Bool} {i:Nat} (h:i<l.length):(l.take (i+1)).any p=((l.take i).any p||p l[i]):=by
 rw [List.take_succ_eq_append_getElem h,List.any_append];simp
set_option maxHeartbeats 1000000 in
set_option maxRecDepth 100000 in
theorem Xmc (k:Nat) (r:RulesD):FnC Tryz.prog 22 [rul k r] [] (fun p loc=>p=exB r.few∧loc=[]):=by
 refine Wl (i:=0) rfl (Ui (i:=4) rfl Ws) fun ht=>?_
 refine Wl (i:=0) rfl (Ui (i:=5) rfl Ws) fun hr=>?_
 replace ht:=ht.1;replace hr:=hr.1
 simp only [maxLen] at ht hr
 refine X4 Tryz.func22 rfl Tryz.ntmps22 rfl fun w0 F0 out=>?_
 by_cases h0:r.crits.length≤70∧r.bonus.length≤70∧r.malus.length≤70∧r.ties.length≤20∧r.rounds.length≤12∧r.prizes.length≤70∧r.points.length≤70
 · obtain ⟨h1,h2,h3,h4,h5,h6,h7⟩:=h0
   have hf:r.few=(r.ties.all (fun t=>decide (t.keys.length≤40))&&r.rounds.all (fun y=>decide (y.score.tot≤400))):=by
     unfold RulesD.few
     simp only [decide_eq_false (Nat.not_lt.2 h1),decide_eq_false (Nat.not_lt.2 h2),decide_eq_false (Nat.not_lt.2 h3),decide_eq_false (Nat.not_lt.2 h4),decide_eq_false (Nat.not_lt.2 h5),decide_eq_false (Nat.not_lt.2 h6),decide_eq_false (Nat.not_lt.2 h7),Bool.false_or,Bool.not_false,Bool.true_and]
   rw [hf]
   (repeat' (first|refine Xf ?_|refine Xb ?_|refine Xd ?_|(apply Xk;(first|exact Xe rfl|exact Xj rfl|exact Wk (b:=false) rfl (fun e=>by cases e) (fun _=>rfl)|exact Yaf|exact Yad|exact Ybo|exact Yaq);exact rfl)|(apply Vh;exact rfl;exact rfl;exact rfl;(first|exact Yaf|exact Yad|exact Ybo|exact Yaq);exact rfl)|refine Xp ?_|refine Xs ?_|(apply Xi;exact rfl;(apply U7;refine V2 rfl ?_;intro _))|(refine W0 rfl rfl (fun hb=>?_) (fun hb=>?_)<;>(repeat (first|replace hb:=X0 hb|replace hb:=X1 hb))<;>(try (exfalso;omega)))|(refine Xo rfl (fun hb=>?_) (fun hb=>?_)<;>(repeat (first|replace hb:=X0 hb|replace hb:=X1 hb))<;>(try (exfalso;omega)))))
   all_goals (try (exfalso;omega))
   rename_i b1 _ _ _ _ _ _
   refine W1 (fun i:Nat=>([(1,ex (.pointer (some ⟨b1,0,none⟩))),(3,exI .i64 (i:Int))],[row b1 29 9 (Vc k r)])) (fun i=>i≤r.ties.length∧(r.ties.take i).all (fun t=>decide (t.keys.length≤40))=true) (fun i=>r.ties.length-i) 0 ?_ ⟨Nat.zero_le _,rfl⟩ fun i hi=>?_
   · exact Xg (by repeat (first|exact Xm|refine Xh rfl ?_)) (List.Sublist.refl _)
   obtain ⟨hi,hall⟩:=hi
   by_cases hlt:i<r.ties.length
   · by_cases he:r.ties[i].keys.length≤40
     · (repeat' (first|refine Xf ?_|refine Xb ?_|refine Xd ?_|(apply Xk;(first|exact Xe rfl|exact Xj rfl|exact Ybd|exact Ya9|exact Ybz|exact Yae|exact Yaq);exact rfl)|refine Xp ?_|refine Xs ?_|(refine Xo rfl (fun hb=>?_) (fun hb=>?_)<;>(repeat (first|replace hb:=X0 hb|replace hb:=X1 hb))<;>(try (exfalso;omega)))))
       all_goals (try (exfalso;omega))
       exact ⟨i+1,⟨by omega,by rw [Xa2 hlt,hall,decide_eq_true he];rfl⟩,by omega,Xg (by repeat (first|exact Xm|refine Xh rfl ?_)) (List.Sublist.refl _)⟩
     · (repeat' (first|refine Xf ?_|refine Xb ?_|refine Xd ?_|(apply Xk;(first|exact Xe rfl|exact Xj rfl|exact Ybd|exact Ya9|exact Yc9|exact Yae|exact Yaq);exact rfl)|refine Xp ?_|refine Xs ?_|refine Xz ?_|(refine Xo rfl (fun hb=>?_) (fun hb=>?_)<;>(repeat (first|replace hb:=X0 hb|replace hb:=X1 hb))<;>(try (exfalso;omega)))))
       all_goals (try (exfalso;omega))
       refine ⟨.inr rfl,Vk rfl (.tmp rfl) (List.nil_sublist _) ⟨congrArg exB ?_,rfl⟩⟩
       have:r.ties.all (fun t=>decide (t.keys.length≤40))=false:=by
         rw [List.all_eq_false];exact ⟨_,List.getElem_mem hlt,by simpa using he⟩
       rw [this];rfl
   · have hk9:i=r.ties.length:=by omega
     subst hk9
     rw [List.take_length] at hall
     rw [hall,Bool.true_and]
     (repeat' (first|refine Xf ?_|refine Xb ?_|refine Xd ?_|(apply Xk;(first|exact Xe rfl|exact Xj rfl|exact Yaf|exact Yad|exact Yak|exact Yaq);exact rfl)|refine Xp ?_|refine Wy ?_|(refine Xo rfl (fun hb=>?_) (fun hb=>?_)<;>(repeat (first|replace hb:=X0 hb|replace hb:=X1 hb))<;>(try (exfalso;omega)))))
     all_goals (try (exfalso;omega))
     refine W1 (fun i:Nat=>([(1,ex (.pointer (some ⟨b1,0,none⟩))),(4,exI .i64 (i:Int))],[row b1 29 9 (Vc k r)])) (fun i=>i≤r.rounds.length∧(r.rounds.take i).all (fun y=>decide (y.score.tot≤400))=true) (fun i=>r.rounds.length-i) 0 ?_ ⟨Nat.zero_le _,rfl⟩ fun i hi=>?_
     · exact Xg (by repeat (first|exact Xm|refine Xh rfl ?_)) (List.Sublist.refl _)
     obtain ⟨hi,hall2⟩:=hi
     by_cases hlt:i<r.rounds.length
     · have hp:=Ex.partsN_spec r.rounds[i].score 400
       by_cases he:r.rounds[i].score.tot≤400
       · have hp2:=hp.2.1 he
         (repeat' (first|refine Xf ?_|refine Xb ?_|refine Xd ?_|(apply Xk;(first|exact Xe rfl|exact Xj rfl|exact Yb7|exact Ya9|exact Ybz|exact Yae|exact Yaq);exact rfl)|refine Xp ?_|refine Xs ?_|(apply Xi;exact rfl;(apply Xn;(refine X9 Tryz.func55 rfl (parts_any _ _ 400 Yar) rfl ?_;rintro _ _ ⟨rfl,rfl⟩)))|(refine Xo rfl (fun hb=>?_) (fun hb=>?_)<;>(repeat (first|replace hb:=X0 hb|replace hb:=X1 hb))<;>(try (exfalso;omega)))))
         all_goals (try (exfalso;omega))
         exact ⟨i+1,⟨by omega,by rw [Xa2 hlt,hall2,decide_eq_true he];rfl⟩,by omega,Xg (by repeat (first|exact Xm|refine Xh rfl ?_)) (List.Sublist.refl _)⟩
       · have hp2:=hp.2.2 Yan
         (repeat' (first|refine Xf ?_|refine Xb ?_|refine Xd ?_|(apply Xk;(first|exact Xe rfl|exact Xj rfl|exact Yb7|exact Ya9|exact Yc9|exact Yae|exact Yaq);exact rfl)|refine Xp ?_|refine Xs ?_|refine Xz ?_|(apply Xi;exact rfl;(apply Xn;(refine X9 Tryz.func55 rfl (parts_any _ _ 400 Yar) rfl ?_;rintro _ _ ⟨rfl,rfl⟩)))|(refine Xo rfl (fun hb=>?_) (fun hb=>?_)<;>(repeat (first|replace hb:=X0 hb|replace hb:=X1 hb))<;>(try (exfalso;omega)))))
         all_goals (try (exfalso;omega))
         refine ⟨.inr rfl,Vk rfl (.tmp rfl) (List.nil_sublist _) ⟨congrArg exB ?_,rfl⟩⟩
         symm
         rw [List.all_eq_false];exact ⟨_,List.getElem_mem hlt,by simpa using he⟩
     · have hk9:i=r.rounds.length:=by omega
       subst hk9
       rw [List.take_length] at hall2
       rw [hall2]
       (repeat' (first|refine Xf ?_|refine Xb ?_|refine Xd ?_|(apply Xk;(first|exact Xe rfl|exact Xj rfl|exact Yaf|exact Yad|exact Yak|exact Yaq);exact rfl)|refine Xz ?_|refine Wy ?_|(refine Xo rfl (fun hb=>?_) (fun hb=>?_)<;>(repeat (first|replace hb:=X0 hb|replace hb:=X1 hb))<;>(try (exfalso;omega)))))
       all_goals (try (exfalso;omega))
       exact ⟨.inr rfl,Vk rfl (.tmp rfl) (List.nil_sublist _) ⟨rfl,rfl⟩⟩
 · have hf:r.few=false:=by
     cases e:r.few
     · rfl
     · exfalso;apply h0
       unfold RulesD.few at e
       simp only [Bool.and_eq_true,Bool.not_eq_true',Bool.or_eq_false_iff,decide_eq_false_iff_not] at e
       omega
   rw [hf]
   (repeat' (first|refine Xf ?_|refine Xb ?_|refine Xd ?_|(apply Xk;(first|exact Xe rfl|exact Xj rfl|exact Wk (b:=true) rfl (fun _=>rfl) (fun e=>by cases e)|exact Wk (b:=false) rfl (fun e=>by cases e) (fun _=>rfl)|exact Yaf|exact Yad|exact Ybo|exact Yaq);exact rfl)|(refine Ve rfl rfl rfl rfl rfl ?_)|(apply Vh;exact rfl;exact rfl;exact rfl;(first|exact Yaf|exact Yad|exact Ybo|exact Yaq);exact rfl)|refine Xz ?_|refine Xx rfl ?_|(apply Xi;exact rfl;(apply U7;refine V2 rfl ?_;intro _))|(refine W0 rfl rfl (fun hb=>?_) (fun hb=>?_)<;>(repeat (first|replace hb:=X0 hb|replace hb:=X1 hb))<;>(try (exfalso;fail)))|(refine Xo rfl (fun hb=>?_) (fun hb=>?_)<;>(repeat (first|replace hb:=X0 hb|replace hb:=X1 hb))<;>(try (exfalso;omega)))))
   all_goals first|exact ⟨.inr rfl,Vk rfl (.tmp rfl) (List.nil_sublist _) ⟨rfl,rfl⟩⟩|(exfalso;omega)
end Go.Proofs.YthdldeenpgeemaaGreatDoor
namespace Go.Fr
open Go.RowKit Go.Kx
end Go.Fr
namespace Go.Sx
open Go.Lx Go.Fr
theorem Xe4 (p:Int×List TokD):(Xah p).length≤p.2.length+2:=by
 unfold Xah
 split
 · simp only [List.length_append,List.length_cons,List.length_nil];omega
 · omega
theorem Xoi (n d:Int):(Xj4 n d).length≤3:=by
 unfold Xj4
 split<;>simp
theorem Xp8 (k:Int) (s:List UInt8) (n d:Int) (ps:List (Int×List TokD)):(Xbq k s n d ps).length≤5+(ps.map fun p=>p.2.length+2).sum:=by
 unfold Xbq
 by_cases ha:ps.length=Rh k
 · simp only [if_neg (show ¬ps.length≠Rh k from fun h=>h ha)]
   have hf:=Xoi n d
   by_cases h1:k=1
   · rw [if_pos h1];omega
   rw [if_neg h1]
   by_cases h8:k=8
   · subst h8
     rw [if_pos rfl]
     obtain ⟨a,rfl⟩:=List.length_eq_one_iff.1 ha
     have:=Xe4 a
     simp only [List.length_append,List.length_cons,List.getElem?_cons_zero,Option.map_some,Option.getD_some,List.map_cons,List.map_nil,List.sum_cons,List.sum_nil];omega
   rw [if_neg h8]
   by_cases h2:k=2
   · rw [if_pos h2];simp;omega
   rw [if_neg h2]
   by_cases h3:k=3
   · rw [if_pos h3];simp;omega
   rw [if_neg h3]
   by_cases h4:k=4
   · rw [if_pos h4];simp;omega
   rw [if_neg h4]
   by_cases h5:k=5
   · rw [if_pos h5];simp;omega
   rw [if_neg h5]
   have two:Rh k=2→ ∃a b,ps=[a,b]:=fun e=>by
     rw [e] at ha
     match ps,ha with
     | [a,b],_=>exact ⟨a,b,rfl⟩
   by_cases h6:k=6
   · obtain ⟨a,b,rfl⟩:=two (by subst h6;rfl)
     rw [if_pos h6]
     have:=Xe4 b
     simp only [List.length_append,List.length_cons,List.getElem?_cons_zero,List.getElem?_cons_succ,Option.map_some,Option.getD_some,List.map_cons,List.map_nil,List.sum_cons,List.sum_nil];omega
   rw [if_neg h6]
   by_cases h7:k=7
   · obtain ⟨a,b,rfl⟩:=two (by subst h7;rfl)
     rw [if_pos h7]
     have:=Xe4 b
     simp only [List.length_append,List.length_cons,List.getElem?_cons_zero,List.getElem?_cons_succ,Option.map_some,Option.getD_some,List.map_cons,List.map_nil,List.sum_cons,List.sum_nil];omega
   rw [if_neg h7]
   by_cases h9:k=9
   · obtain ⟨a,b,rfl⟩:=two (by subst h9;rfl)
     rw [if_pos h9]
     simp only [List.length_append,List.length_cons,List.length_nil,List.getElem?_cons_zero,List.getElem?_cons_succ,Option.map_some,Option.getD_some,List.map_cons,List.map_nil,List.sum_cons,List.sum_nil];omega
   rw [if_neg h9]
   by_cases h10:k=10
   · obtain ⟨a,b,rfl⟩:=two (by subst h10;rfl)
     rw [if_pos h10]
     simp only [List.length_append,List.length_cons,List.length_nil,List.getElem?_cons_zero,List.getElem?_cons_succ,Option.map_some,Option.getD_some,List.map_cons,List.map_nil,List.sum_cons,List.sum_nil];omega
   rw [if_neg h10]
   by_cases h11:k=11
   · subst h11
     rw [if_pos rfl]
     match ps,ha with
     | [a,b,c,e],_=>
       simp only [List.length_append,List.length_cons,List.length_nil,List.getElem?_cons_zero,List.getElem?_cons_succ,Option.map_some,Option.getD_some,List.map_cons,List.map_nil,List.sum_cons,List.sum_nil];omega
   rw [if_neg h11];simp
 · rw [if_pos ha];simp
mutual
theorem exT_len: ∀x:Ex,(exT' x).length+2≤7 * x.tot
 | .mk k s n d l=>by
   have h1:=Xp8 k s n d (exTs l)
   have h2:=exTs_len l
   rw [exT',Ex.tot_l]
   show _≤7 * (1+Ex.tots l)
   omega
theorem exTs_len: ∀l:List Ex,((exTs l).map fun p=>p.2.length+2).sum≤7 * Ex.tots l
 | []=>Nat.le_refl _
 | x::l=>by
   have h1:=exT_len x
   have h2:=exTs_len l
   rw [exTs,List.map_cons,List.sum_cons,Ex.tots]
   show (exT' x).length+2+_≤_
   omega
end
theorem Rz {α:Type} {tk:α→List TokD} {l:List α} {c:Nat} (h: ∀x∈l,(tk x).length≤c):(l.flatMap tk).length≤c * l.length:=by
 induction l with
 | nil=>simp
 | cons x l ih=>
   have h1:=h x Ybn
   have h2:=ih fun y hy=>h y (List.mem_cons_of_mem _ hy)
   rw [List.flatMap_cons,List.length_append,List.length_cons,Nat.mul_succ]
   omega
theorem Xp9 (x:Crit):(Xhk x).length≤3:=by unfold Xhk;split;simp;split<;>simp
theorem Xmd (q:KeyD):(Qj q).length≤2:=by
 unfold Qj
 repeat' split
 all_goals simp
theorem Xoj (l:List KeyD):(keysT l).length≤3 * l.length:=by
 cases l with
 | nil=>exact Nat.le_refl _
 | cons x l=>
   have h1:=Xmd x
   have h2:=Rz (tk:=fun y=>tkS sComma::Qj y) (l:=l) (c:=3) fun y _=>by have:=Xmd y;simp only [List.length_cons];omega
   show (Qj x++l.flatMap _).length≤_
   rw [List.length_append,List.length_cons];omega
theorem Xd6 (l:List Int):(commaT l).length≤2 * l.length:=by
 cases l with
 | nil=>exact Nat.le_refl _
 | cons x l=>
   have h2:=Rz (tk:=fun y:Int=>[tkS sComma,tkN y]) (l:=l) (c:=2) fun y _=>Nat.le_refl _
   show (l.flatMap _).length+1≤_
   rw [List.length_cons];omega
theorem Xme {r:RulesD} {n t k m e p:Nat} (h1:r.crits.length≤n) (h2:r.bonus.length≤n) (h3:r.malus.length≤n) (h4:r.ties.length≤t) (h5:r.rounds.length≤m) (h6:r.prizes.length≤p) (h7:r.points.length≤p) (hk: ∀x∈r.ties,x.keys.length≤k) (he: ∀x∈r.rounds,x.score.tot≤e):(Uh r).length≤15 * n+7 * n+7 * n+(3 * k+3) * t+(12+7 * e) * m+4 * p+9:=by
 have c1:=Rz (tk:=Ry) (l:=r.crits) (c:=15) fun x _=>by
   rw [Xfq]
   have:=Xp9 x
   have:(Xjo x).length≤1:=by unfold Xjo;split<;>simp
   omega
 have c2:=Rz (tk:=Tu wBonus) (l:=r.bonus) (c:=7) fun x _=>Nat.le_refl _
 have c3:=Rz (tk:=Tu wMalus) (l:=r.malus) (c:=7) fun x _=>Nat.le_refl _
 have c4:=Rz (tk:=Xev) (l:=r.ties) (c:=3 * k+3) fun x hx=>by
   rw [Xin]
   have:=Xoj x.keys
   have:=hk x hx
   omega
 have c5:=Rz (tk:=roundT) (l:=r.rounds) (c:=12+7 * e) fun x hx=>by
   rw [Xds]
   have:=exT_len x.score
   have:=he x hx
   have:(Xhl x.cut).length≤1:=by unfold Xhl;split;simp;split<;>simp
   have:(Xbk x).length≤1:=by unfold Xbk;split<;>simp
   have:(plT x).length≤1+(exT' x.score).length:=by unfold plT;split<;>simp<;>omega
   have:(tiT x).length≤2:=by unfold tiT;split<;>simp
   omega
 have c6:=Xd6 r.prizes
 have c7:=Xd6 r.points
 have c8:(Xio r.prizes).length≤2+(commaT r.prizes).length:=by unfold Xio;split<;>simp<;>omega
 have c9:(Xnu r.points r.best).length≤4+(commaT r.points).length:=by unfold Xnu;split<;>simp<;>omega
 have hRT:Uh r=[tkW wCompetition,tkW r.name,tkS sSemi]++r.crits.flatMap Ry++r.bonus.flatMap (Tu wBonus)++r.malus.flatMap (Tu wMalus)++r.ties.flatMap Xev++r.rounds.flatMap roundT++Xio r.prizes++Xnu r.points r.best:=rfl
 rw [hRT]
 simp only [List.length_append,List.length_cons,List.length_nil]
 have m1:=Nat.mul_le_mul_left 15 h1
 have m2:=Nat.mul_le_mul_left 7 h2
 have m3:=Nat.mul_le_mul_left 7 h3
 have m4:=Nat.mul_le_mul_left (3 * k+3) h4
 have m5:=Nat.mul_le_mul_left (12+7 * e) h5
 omega
theorem Xmf {r:RulesD} (h:r.few=true):(Uh r).length≤70000:=by
 unfold RulesD.few at h
 simp only [Bool.and_eq_true,Bool.not_eq_true',Bool.or_eq_false_iff,decide_eq_false_iff_not,List.all_eq_true,decide_eq_true_eq] at h
 obtain ⟨h,ht,hs⟩:=h
 have:=Xme (n:=70) (t:=20) (k:=40) (m:=12) (e:=400) (p:=70) (r:=r) Yan Yan Yan Yan Yan Yan Yan ht hs
 omega
end Go.Sx
namespace Go.Proofs.YthdldeenpgeemaaGreatDoor
open Go Go.RowKit Go.Kx Go.Fr Go.Lx Go.Sx
end Go.Proofs.YthdldeenpgeemaaGreatDoor
namespace Go.Sx
open Go.Lx Go.Fr
theorem Xhz (r:RulesD):Xd0 r=([],130)∨(Xd0 r=(joinF ((Uh r).map word),0)∧Va (Uh r)∧rulesP (Uh r)= .ok (r,[])):=by
 by_cases h:((Uh r).all V7&&(decide ((Qg (Uh r) 0).2.2=0)&&decide ((Qg (Uh r) 0).1=r)))=true
 · refine .inr ⟨by unfold Xd0;rw [if_pos h],?_⟩
   simp only [Bool.and_eq_true,decide_eq_true_eq] at h
   obtain ⟨h1,h2,h3⟩:=h
   refine ⟨List.all_eq_true.1 h1,?_⟩
   unfold Qg at h2 h3
   cases hr:rulesP (Uh r) with
   | error e=>rw [hr] at h2;exact absurd h2 (show ¬(130:Int)=0 by decide)
   | ok q=>
     obtain ⟨x,u⟩:=q
     obtain rfl:=Xda hr
     rw [hr] at h3
     exact congrArg (fun z=>Except.ok (z,[])) h3
 · exact .inl (by unfold Xd0;rw [if_neg h])
end Go.Sx
namespace Go.Proofs.YthdldeenpgeemaaGreatDoor
open Go Go.RowKit Go.Kx Go.Fr Go.Lx Go.Sx
end Go.Proofs.YthdldeenpgeemaaGreatDoor
namespace Go.Proofs.YthdldeenpgeemaaGreatDoor
open Go Go.RowKit Go.Kx Go.Fr Go.Lx Go.ChangeShapes Go.WideShapes
theorem rdB:Reads Tryz.prog 4 eBool:=Xku Tryz.underlying4
theorem Xrb (K:Nat):ReadsK Tryz.prog 70 K (eCrit):=by
 intro H enc w fuel cs x hK h hw
 obtain ⟨a0,h0⟩:=Wp (K:=K) Tryz.underlying70 h hw Yan 0 _ rfl (fits_str) (rdT.at _) 0 1 rfl Yat
 obtain ⟨a1,h1⟩:=Wp (K:=K) Tryz.underlying70 h hw Yan 1 _ rfl (fits_int) (rdI.at _) 1 1 rfl Yat
 obtain ⟨a2,h2⟩:=Wp (K:=K) Tryz.underlying70 h hw Yan 2 _ rfl (fits_int) (rdI.at _) 2 1 rfl Yat
 obtain ⟨a3,h3⟩:=Wp (K:=K) Tryz.underlying70 h hw Yan 3 _ rfl (fits_int) (rdI.at _) 3 1 rfl Yat
 obtain ⟨a4,h4⟩:=Wp (K:=K) Tryz.underlying70 h hw Yan 4 _ rfl (fits_int) (rdI.at _) 4 1 rfl Yat
 obtain ⟨a5,h5⟩:=Wp (K:=K) Tryz.underlying70 h hw Yan 5 _ rfl (fits_int) (rdI.at _) 5 1 rfl Yat
 obtain ⟨a6,h6⟩:=Wp (K:=K) Tryz.underlying70 h hw Yan 6 _ rfl (fits_bool') (rdB.at _) 6 1 rfl Yat
 have hl:=R2 Tryz.underlying70 h (n:=7) Yat
 exact ⟨⟨a0,a1,a2,a3,a4,a5,a6⟩,hl,(CellsR.parts h0 (CellsR.parts h1 (CellsR.parts h2 (CellsR.parts h3 (CellsR.parts h4 (CellsR.parts h5 (CellsR.parts h6 (CellsR.parts0 hl) rfl) rfl) rfl) rfl) rfl) rfl) rfl)⟩
theorem Xqa (K:Nat):ReadsK Tryz.prog 23 K (eSl (eCrit)):=Tj Tryz.underlying23 Yat (Nat.zero_lt_succ _) Yat (Xrb K)
theorem Xrc (K:Nat):ReadsK Tryz.prog 106 K (eItem):=by
 intro H enc w fuel cs x hK h hw
 obtain ⟨a0,h0⟩:=Wp (K:=K) Tryz.underlying106 h hw Yan 0 _ rfl (fits_str) (rdT.at _) 0 1 rfl Yat
 obtain ⟨a1,h1⟩:=Wp (K:=K) Tryz.underlying106 h hw Yan 1 _ rfl (fits_int) (rdI.at _) 1 1 rfl Yat
 obtain ⟨a2,h2⟩:=Wp (K:=K) Tryz.underlying106 h hw Yan 2 _ rfl (fits_int) (rdI.at _) 2 1 rfl Yat
 have hl:=R2 Tryz.underlying106 h (n:=3) Yat
 exact ⟨⟨a0,a1,a2⟩,hl,(CellsR.parts h0 (CellsR.parts h1 (CellsR.parts h2 (CellsR.parts0 hl) rfl) rfl) rfl)⟩
theorem Xmg (K:Nat):ReadsK Tryz.prog 24 K (eSl (eItem)):=Tj Tryz.underlying24 Yat (Nat.zero_lt_succ _) Yat (Xrc K)
theorem Xsc (K:Nat):ReadsK Tryz.prog 97 K (eKey):=by
 intro H enc w fuel cs x hK h hw
 obtain ⟨a0,h0⟩:=Wp (K:=K) Tryz.underlying97 h hw Yan 0 _ rfl (fits_int) (rdI.at _) 0 1 rfl Yat
 obtain ⟨a1,h1⟩:=Wp (K:=K) Tryz.underlying97 h hw Yan 1 _ rfl (fits_str) (rdT.at _) 1 1 rfl Yat
 obtain ⟨a2,h2⟩:=Wp (K:=K) Tryz.underlying97 h hw Yan 2 _ rfl (fits_int) (rdI.at _) 2 1 rfl Yat
 have hl:=R2 Tryz.underlying97 h (n:=3) Yat
 exact ⟨⟨a0,a1,a2⟩,hl,(CellsR.parts h0 (CellsR.parts h1 (CellsR.parts h2 (CellsR.parts0 hl) rfl) rfl) rfl)⟩
theorem Xrd (K:Nat):ReadsK Tryz.prog 72 K (eSl (eKey)):=Tj Tryz.underlying72 Yat (Nat.zero_lt_succ _) Yat (Xsc K)
theorem Xsd (K:Nat):ReadsK Tryz.prog 74 K (eTie):=by
 intro H enc w fuel cs x hK h hw
 obtain ⟨a0,h0⟩:=Wp (K:=K) Tryz.underlying74 h hw Yan 0 _ rfl (fits_str) (rdT.at _) 0 1 rfl Yat
 obtain ⟨a1,h1⟩:=Wp (K:=K) Tryz.underlying74 h hw Yan 1 _ rfl (S0) (Xrd K) 1 1 rfl Yat
 have hl:=R2 Tryz.underlying74 h (n:=2) Yat
 exact ⟨⟨a0,a1⟩,hl,(CellsR.parts h0 (CellsR.parts h1 (CellsR.parts0 hl) rfl) rfl)⟩
theorem Xre (K:Nat):ReadsK Tryz.prog 25 K (eSl (eTie)):=Tj Tryz.underlying25 Yat (Nat.zero_lt_succ _) Yat (Xsd K)
theorem Xpc (K:Nat):ReadsK Tryz.prog 27 K (eSl eI):=Tj Tryz.underlying27 Yat (Nat.zero_lt_succ _) Yat (rdI.at K)
theorem rdExpr: ∀K:Nat,ReadsK Tryz.prog 52 K (eEx K)
 | 0=> .zero
 | K+1=>by
   intro H enc w fuel cs x hK h hw
   have hs:ReadsK Tryz.prog 50 K (eSl (eEx K)):=Tj Tryz.underlying50 Yat (Nat.zero_lt_succ _) Yat (rdExpr K)
   obtain ⟨a0,h0⟩:=Wp (K:=K) Tryz.underlying52 h hw Yan 0 _ rfl fits_int (rdI.at _) 0 1 rfl Yat
   obtain ⟨a1,h1⟩:=Wp (K:=K) Tryz.underlying52 h hw Yan 1 _ rfl fits_str (rdT.at _) 1 1 rfl Yat
   obtain ⟨a2,h2⟩:=Wp (K:=K) Tryz.underlying52 h hw Yan 2 _ rfl fits_int (rdI.at _) 2 1 rfl Yat
   obtain ⟨a3,h3⟩:=Wp (K:=K) Tryz.underlying52 h hw Yan 3 _ rfl fits_int (rdI.at _) 3 1 rfl Yat
   obtain ⟨a4,h4⟩:=Wp (K:=K) Tryz.underlying52 h hw Yan 4 _ rfl S0 hs 4 1 rfl Yat
   have hl:=R2 Tryz.underlying52 h (n:=5) Yat
   exact ⟨.mk a0 a1 a2 a3 a4,hl,(CellsR.parts h0 (CellsR.parts h1 (CellsR.parts h2 (CellsR.parts h3 (CellsR.parts h4 (CellsR.parts0 hl) rfl) rfl) rfl) rfl) rfl)⟩
theorem Xqb (K:Nat):ReadsK Tryz.prog 54 K (Vy K):=by
 intro H enc w fuel cs x hK h hw
 obtain ⟨a0,h0⟩:=Wp (K:=K) Tryz.underlying54 h hw Yan 0 _ rfl (fits_str) (rdT.at _) 0 1 rfl Yat
 obtain ⟨a1,h1⟩:=Wp (K:=K) Tryz.underlying54 h hw Yan 1 _ rfl (fits_int) (rdI.at _) 1 1 rfl Yat
 obtain ⟨a2,h2⟩:=Wp (K:=K) Tryz.underlying54 h hw Yan 2 _ rfl (fits_int) (rdI.at _) 2 1 rfl Yat
 obtain ⟨a3,h3⟩:=Wp (K:=K) Tryz.underlying54 h hw Yan 3 _ rfl (fits_int) (rdI.at _) 3 1 rfl Yat
 obtain ⟨a4,h4⟩:=Wp (K:=K) Tryz.underlying54 h hw Yan 4 _ rfl (fits_bool') (rdB.at _) 4 1 rfl Yat
 obtain ⟨a5,h5⟩:=Wp (K:=K) Tryz.underlying54 h hw Yan 5 _ rfl (fits_bool') (rdB.at _) 5 1 rfl Yat
 obtain ⟨a6,h6⟩:=Wp (K:=K) Tryz.underlying54 h hw Yan 6 _ rfl (Xgf) (rdExpr K) 6 5 rfl Yat
 obtain ⟨a7,h7⟩:=Wp (K:=K) Tryz.underlying54 h hw Yan 7 _ rfl (fits_str) (rdT.at _) 11 1 rfl Yat
 obtain ⟨a8,h8⟩:=Wp (K:=K) Tryz.underlying54 h hw Yan 8 _ rfl (fits_int) (rdI.at _) 12 1 rfl Yat
 have hl:=R2 Tryz.underlying54 h (n:=13) Yat
 exact ⟨⟨a0,a1,a2,a3,a4,a5,a6,a7,a8⟩,hl,(CellsR.parts h0 (CellsR.parts h1 (CellsR.parts h2 (CellsR.parts h3 (CellsR.parts h4 (CellsR.parts h5 (CellsR.parts h6 (CellsR.parts h7 (CellsR.parts h8 (CellsR.parts0 hl) rfl) rfl) rfl) rfl) rfl) rfl) rfl) rfl) rfl)⟩
theorem Xok (K:Nat):ReadsK Tryz.prog 26 K (eSl (Vy K)):=Tj Tryz.underlying26 Yat (Nat.zero_lt_succ _) Yat (Xqb K)
theorem Xqc (K:Nat):ReadsK Tryz.prog 29 K (Xh0 (Vc K) 9 200):=by
 intro H enc w fuel cs x hK h hw
 obtain ⟨a0,h0⟩:=Wp (K:=K) Tryz.underlying29 h hw Yan 0 _ rfl (fits_str) (rdT.at _) 0 1 rfl Yat
 obtain ⟨a1,h1⟩:=Wp (K:=K) Tryz.underlying29 h hw Yan 1 _ rfl (S0) (Xqa K) 1 1 rfl Yat
 obtain ⟨a2,h2⟩:=Wp (K:=K) Tryz.underlying29 h hw Yan 2 _ rfl (S0) (Xmg K) 2 1 rfl Yat
 obtain ⟨a3,h3⟩:=Wp (K:=K) Tryz.underlying29 h hw Yan 3 _ rfl (S0) (Xmg K) 3 1 rfl Yat
 obtain ⟨a4,h4⟩:=Wp (K:=K) Tryz.underlying29 h hw Yan 4 _ rfl (S0) (Xre K) 4 1 rfl Yat
 obtain ⟨a5,h5⟩:=Wp (K:=K) Tryz.underlying29 h hw Yan 5 _ rfl (S0) (Xok K) 5 1 rfl Yat
 obtain ⟨a6,h6⟩:=Wp (K:=K) Tryz.underlying29 h hw Yan 6 _ rfl (S0) (Xpc K) 6 1 rfl Yat
 obtain ⟨a7,h7⟩:=Wp (K:=K) Tryz.underlying29 h hw Yan 7 _ rfl (S0) (Xpc K) 7 1 rfl Yat
 obtain ⟨a8,h8⟩:=Wp (K:=K) Tryz.underlying29 h hw Yan 8 _ rfl (fits_int) (rdI.at _) 8 1 rfl Yat
 have hl:=R2 Tryz.underlying29 h (n:=9) Yat
 exact ⟨⟨a0,a1,a2,a3,a4,a5,a6,a7,a8⟩,hl,(CellsR.parts h0 (CellsR.parts h1 (CellsR.parts h2 (CellsR.parts h3 (CellsR.parts h4 (CellsR.parts h5 (CellsR.parts h6 (CellsR.parts h7 (CellsR.parts h8 (CellsR.parts0 hl) rfl) rfl) rfl) rfl) rfl) rfl) rfl) rfl) rfl)⟩
instance {k:Nat}:LenS (Vc k) 9:=⟨fun _=>rfl⟩
theorem Xmh {W:World} {v:Value} (h:ArgIn Tryz.prog W 29 v): ∃(K:Nat) (r:RulesD),(rul K r).rel (fun _=>True) W v:=ArgIn.agg (gs:=Vc) h Tryz.underlying29 Xqc fun _=>Xgf
end Go.Proofs.YthdldeenpgeemaaGreatDoor
