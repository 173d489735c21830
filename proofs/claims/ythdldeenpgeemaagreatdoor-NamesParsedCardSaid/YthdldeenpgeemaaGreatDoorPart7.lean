/- Frame: interface values that hold a struct. No program in sight. -/
import Derived.Test.YthdldeenpgeemaaGreatDoorPart6
import Derived.Test.YthdldeenpgeemaaGreatDoorPart3
import Derived.Test.YthdldeenpgeemaaGreatDoorPart2
import Derived.Test.YthdldeenpgeemaaGreatDoorPart4
import Derived.Test.YthdldeenpgeemaaGreatDoorPart5
set_option maxHeartbeats 4000000
set_option maxRecDepth 100000
namespace Go.Fr
open Go.RowKit Go.Kx
section
variable {C:Cx} {S:(Nat→Prop)→World→World→Prop} {env:Env} {loc:List Ent} {dst:Option Tmp} {ty:TypeId} {pos:String} {af:Array Edge} {g:Option (Nat×Bool)}
theorem Xpx {F:Nat→Prop} {w:World} {v u:Value} (h:(agg [ex v]).rel F w u):u= .agg #[v]:=by
 obtain ⟨cs,rfl,hc⟩:=h
 have hl:cs.length=1:=hc.len
 obtain ⟨c,rfl⟩:=List.length_eq_one_iff.1 hl
 obtain ⟨v',h1,h2⟩:=hc.at_ 0 _ rfl
 cases h1
 have h3:c=v:=h2
 rw [h3]
theorem Xis {x:Operand} {T:TypeId} {v:Value} {dd:TypeDesc} (hx:ev env x=some (agg [ex v])) (ht:C.P.underlying T=some dd) (hn:concB dd=true:=by rfl):WT C S ⟨dst,.makeInterface T x,ty,pos,af,g⟩ (ex (.iface T (.agg #[v]))) env loc:=by
 constructor
 intro F a w hR
 have hv:a.eval x= .agg #[v]:=Xpx (X8 hR hx)
 refine ⟨_,rfl,fun w' _=>?_⟩
 generalize a.eval=ρ at hv ⊢
 cases dd<;>first|(cases hn;done)|simp [execOp,Instr.makeInterface,hv,Vz ht,go_sem]
end
end Go.Fr
namespace Go.Fr
open Go.RowKit Go.Kx
def U2 (l:List (List UInt8)) (s:List UInt8):Int:=match l.findIdx? (fun x=>decide (x=s)) with
 | some i=>i
 | none=> -1
theorem Xjy {l:List (List UInt8)} {s:List UInt8} {k:Nat} (hk:k<l.length) (hn: ∀j (h:j<k),l[j]'Yan≠s) (he:l[k]=s):U2 l s=k:=by
 have:l.findIdx? (fun x=>decide (x=s))=some k:=by
   rw [List.findIdx?_eq_some_iff_getElem]
   exact ⟨hk,by simp [he],fun j hj=>by simpa using hn j hj⟩
 unfold U2;rw [this]
theorem Xg7 {l:List (List UInt8)} {s:List UInt8} (hn: ∀j (h:j<l.length),l[j]≠s):U2 l s= -1:=by
 have:l.findIdx? (fun x=>decide (x=s))=none:=by
   rw [List.findIdx?_eq_none_iff]
   intro x hx
   obtain ⟨j,hj,rfl⟩:=List.getElem_of_mem hx
   simpa using hn j hj
 unfold U2;rw [this]
theorem T0 (l:List (List UInt8)) (s:List UInt8):0≤U2 l s↔s∈l:=by
 unfold U2
 cases h:l.findIdx? (fun x=>decide (x=s)) with
 | none=>
   rw [List.findIdx?_eq_none_iff] at h
   simp only [show ¬(0:Int)≤ -1 by decide,false_iff]
   intro hm
   simpa using h s hm
 | some i=>
   obtain ⟨h1,h2,_⟩:=List.findIdx?_eq_some_iff_getElem.1 h
   simp only [Int.natCast_nonneg,true_iff]
   have:l[i]=s:=by simpa using h2
   rw [←this];exact List.getElem_mem h1
theorem Xk9 {l:List (List UInt8)} {s:List UInt8} (h:s∈l): ∃(i:Nat) (hi:i<l.length),U2 l s=i∧l[i]=s∧ ∀j (hj:j<i),l[j]'Yan≠s:=by
 have h0:=(T0 l s).2 h
 unfold U2 at h0 ⊢
 cases e:l.findIdx? (fun x=>decide (x=s)) with
 | none=>rw [e] at h0;exact absurd h0 Yar
 | some i=>
   obtain ⟨h1,h2,h3⟩:=List.findIdx?_eq_some_iff_getElem.1 e
   exact ⟨i,h1,rfl,by simpa using h2,fun j hj=>by simpa using h3 j hj⟩
def onceF:List (List UInt8)→Bool
 | []=>true
 | s::l=> !decide (s∈l)&&onceF l
theorem onceF_iff: ∀l:List (List UInt8),onceF l=true↔ ∀(i j:Nat) (hi:i<l.length) (hj:j<l.length),l[i]=l[j]→i=j
 | []=>by simp [onceF]
 | s::l=>by
   simp only [onceF,Bool.and_eq_true,Bool.not_eq_true',decide_eq_false_iff_not,onceF_iff l]
   constructor
   · rintro ⟨h1,h2⟩ i j hi hj he
     cases i with
     | zero=>
       cases j with
       | zero=>rfl
       | succ j=>exact absurd (by rw [show s=l[j]'(by simpa using hj) from he];exact List.getElem_mem _) h1
     | succ i=>
       cases j with
       | zero=>exact absurd (by rw [show s=l[i]'Ydt from he.symm];exact List.getElem_mem _) h1
       | succ j=>rw [h2 i j Ydt (by simpa using hj) he]
   · intro h
     refine ⟨fun hm=>?_,fun i j hi hj he=>?_⟩
     · obtain ⟨j,hj,e⟩:=List.getElem_of_mem hm
       have:=h 0 (j+1) Ybn (by simpa using hj) (by simpa using e.symm)
       omega
     · have:=h (i+1) (j+1) Ydt (by simpa using hj) (by simpa using he)
       omega
theorem Xpy {l:List (List UInt8)}:onceF l=true↔ ∀(i:Nat) (hi:i<l.length),U2 l l[i]=i:=by
 rw [onceF_iff]
 constructor
 · intro h i hi
   obtain ⟨j,hj,e1,e2,_⟩:=Xk9 (List.getElem_mem hi)
   rw [e1,h j i hj hi e2]
 · intro h i j hi hj he
   have h1:=h i hi
   have h2:=h j hj
   rw [he,h2] at h1
   omega
def Xrv (l0 l3:List (List UInt8)) (kind:Int) (s:List UInt8) (n:Int):Int:=if kind=2 then U2 l0 s else if kind=5 then U2 l3 s else n
def Xla (l0 l3:List (List UInt8)) (kind:Int) (s:List UInt8):Bool:=if kind=2 then decide (0≤U2 l0 s) else if kind=5 then decide (0≤U2 l3 s) else true
namespace Ex
mutual
def res (l0 l3:List (List UInt8)):Ex→Ex
 | mk k s n d l=>mk k s (Xrv l0 l3 k s n) d (Xrs l0 l3 l)
def Xrs (l0 l3:List (List UInt8)):List Ex→List Ex
 | []=>[]
 | x::xs=>res l0 l3 x::Xrs l0 l3 xs
end
mutual
def ok (l0 l3:List (List UInt8)):Ex→Bool
 | mk k s _ _ l=>Xla l0 l3 k s&&oks l0 l3 l
def oks (l0 l3:List (List UInt8)):List Ex→Bool
 | []=>true
 | x::xs=>ok l0 l3 x&&oks l0 l3 xs
end
end Ex
def Xrw (l0 l2 l3:List (List UInt8)) (k:KeyD):KeyD:={ k with n:=if k.kind=1 then U2 l0 k.name else if k.kind=2 then U2 l3 k.name else if k.kind=5 then U2 l2 k.name else k.n }
def Xjz (l0 l2 l3:List (List UInt8)) (k:KeyD):Bool:=if k.kind=1 then decide (0≤U2 l0 k.name) else if k.kind=2 then decide (0≤U2 l3 k.name) else if k.kind=5 then decide (0≤U2 l2 k.name) else true
namespace RulesD
def n0 (r:RulesD):List (List UInt8):=r.crits.map (·.name)
def n1 (r:RulesD):List (List UInt8):=r.bonus.map (·.name)++r.malus.map (·.name)
def n2 (r:RulesD):List (List UInt8):=r.ties.map (·.name)
def n3 (r:RulesD):List (List UInt8):=r.rounds.map (·.name)
def big (r:RulesD):Bool:=decide (64<r.crits.length)||(decide (64<r.bonus.length)||(decide (64<r.malus.length)||(decide (16<r.ties.length)||(decide (8<r.rounds.length)||(decide (64<r.prizes.length)||decide (64<r.points.length))))))
def large (r:RulesD):Bool:=r.big||(r.ties.any (fun t=>decide (32<t.keys.length))||r.rounds.any (fun y=>decide (256<y.score.tot)||decide (16<y.score.depth)))
def few (r:RulesD):Bool:= !(decide (70<r.crits.length)||(decide (70<r.bonus.length)||(decide (70<r.malus.length)||(decide (20<r.ties.length)||(decide (12<r.rounds.length)||(decide (70<r.prizes.length)||decide (70<r.points.length)))))))&&(r.ties.all (fun t=>decide (t.keys.length≤40))&&r.rounds.all (fun y=>decide (y.score.tot≤400)))
def zero:RulesD:=⟨[],[],[],[],[],[],[],[],0⟩
def tieN (r:RulesD) (t:TieD):TieD:={ t with keys:=t.keys.map (Xrw r.n0 r.n2 r.n3) }
def tieOk (r:RulesD) (t:TieD):Bool:=t.keys.all (Xjz r.n0 r.n2 r.n3)
def roundN (r:RulesD) (y:RoundD):RoundD:={ y with score:=y.score.res r.n0 r.n3,tieNo:=if y.tie=[] then -1 else U2 r.n2 y.tie }
def roundOk (r:RulesD) (y:RoundD):Bool:=y.score.ok r.n0 r.n3&&(decide (y.tie=[])||decide (0≤U2 r.n2 y.tie))
def resolved (r:RulesD):RulesD:={ r with ties:=r.ties.map r.tieN,rounds:=r.rounds.map r.roundN }
def allOk (r:RulesD):Bool:=r.ties.all r.tieOk&&r.rounds.all r.roundOk
def once (r:RulesD):Bool:=onceF r.n0&&(onceF r.n1&&(onceF r.n2&&onceF r.n3))
def resolve (fr:List UInt8→Bool) (r:RulesD):RulesD×Int:=
 if r.large then (zero,2)
 else if !(fr r.name&&(r.n0.all fr&&(r.n1.all fr&&(r.n2.all fr&&r.n3.all fr)))) then (zero,140)
 else if !r.once then (zero,141)
 else if !r.allOk then (zero,140)
 else (r.resolved,0)
def check (fr:List UInt8→Bool) (r:RulesD):Int:=
 if (r.resolve fr).2≠0 then (r.resolve fr).2 else if (r.resolve fr).1=r then 0 else 140
end RulesD
end Go.Fr
namespace Go.Proofs.YthdldeenpgeemaaGreatDoor
open Go Go.RowKit Go.Kx Go.Fr
theorem Xb2 (a b:List Int):FnC Tryz.prog 76 [isl eI a,isl eI b] [] (fun p loc=>p=exB (decide (a=b))∧loc=[]):=by
 refine Wl (i:=0) rfl Ws fun ha=>?_
 refine Wl (i:=1) rfl Ws fun hb=>?_
 replace ha:=ha.1
 replace hb:=hb.1
 simp only [maxLen] at ha hb
 refine X4 Tryz.func76 rfl Tryz.ntmps76 rfl fun w0 F0 out=>?_
 by_cases hl:a.length=b.length
 · (repeat' (first|refine Xf ?_|refine Xb ?_|refine Xd ?_|(apply Xk;exact Yai;exact rfl)|refine Xp ?_|refine Xs ?_|(refine Xo rfl (fun hb=>?_) (fun hb=>?_)<;>(repeat (first|replace hb:=X0 hb|replace hb:=X1 hb|replace hb:=Vf hb|replace hb:=Vg hb))<;>(try (exfalso;omega)))))
   all_goals (try (exfalso;omega))
   refine W1 (fun k:Nat=>([(0,isl eI a),(1,isl eI b),(5,exI .i64 k)],[])) (fun k=>k≤a.length∧a.take k=b.take k) (fun k=>a.length-k) 0 ?_ ⟨Nat.zero_le _,rfl⟩ fun k hk=>?_
   · exact Xg (by repeat (first|exact Xm|refine Xh rfl ?_)) (List.Sublist.refl _)
   obtain ⟨hk,ht⟩:=hk
   by_cases hlt:k<a.length
   · by_cases he:a[k]=b[k]'Yan
     · (repeat' (first|refine Xf ?_|refine Xb ?_|refine Xd ?_|(apply Xk;exact Ycu;exact rfl)|refine Xp ?_|refine Xs ?_|(refine Xo rfl (fun hb=>?_) (fun hb=>?_)<;>(repeat (first|replace hb:=X0 hb|replace hb:=X1 hb))<;>(try (exfalso;omega)))))
       (refine W9 9 rfl ?_)
       all_goals ((apply Xc 0 rfl Yaa rfl Yab Xa;(exact Xe rfl);exact rfl))
       all_goals ((apply Xc 1 rfl Yaa rfl Yab Xa;(exact Xe rfl);exact rfl))
       all_goals ((apply Xc 2 rfl Yaa rfl Yab Xa;(exact Yae);exact rfl))
       all_goals ((apply Xu 3 rfl Yaa rfl Yaa Yab Xa;(exact Yag);exact rfl))
       all_goals ((apply Xc 4 rfl Yaa rfl Yab Xa;(exact Xe rfl);exact rfl))
       all_goals ((apply Xc 5 rfl Yaa rfl Yab Xa;(exact Xe rfl);exact rfl))
       all_goals ((apply Xc 6 rfl Yaa rfl Yab Xa;(exact Yae);exact rfl))
       all_goals ((apply Xu 7 rfl Yaa rfl Yaa Yab Xa;(exact Yag);exact rfl))
       all_goals ((apply Xc 8 rfl Yaa rfl Yab Xa;(exact Ybi);exact rfl))
       all_goals (refine X3 Yaa ?_)
       all_goals ((repeat' (first|refine Xb ?_|refine Xd ?_|(apply Xk;exact Yay;exact rfl)|refine Xs ?_|(refine Xo rfl (fun hb=>?_) (fun hb=>?_)<;>(repeat (first|replace hb:=X0 hb|replace hb:=X1 hb|replace hb:=Vf hb|replace hb:=Vg hb))<;>(try (exfalso;omega))))))
       all_goals (try (exfalso;simp_all;done))
       exact ⟨k+1,⟨by omega,by rw [List.take_succ_eq_append_getElem hlt,List.take_succ_eq_append_getElem Yan,ht,he]⟩,by omega,Xg (by repeat (first|exact Xm|refine Xh rfl ?_)) (List.Sublist.refl _)⟩
     · (repeat' (first|refine Xf ?_|refine Xb ?_|refine Xd ?_|(apply Xk;exact Ycu;exact rfl)|refine Xp ?_|refine Xs ?_|(refine Xo rfl (fun hb=>?_) (fun hb=>?_)<;>(repeat (first|replace hb:=X0 hb|replace hb:=X1 hb))<;>(try (exfalso;omega)))))
       (refine W9 9 rfl ?_)
       all_goals ((apply Xc 0 rfl Yaa rfl Yab Xa;(exact Xe rfl);exact rfl))
       all_goals ((apply Xc 1 rfl Yaa rfl Yab Xa;(exact Xe rfl);exact rfl))
       all_goals ((apply Xc 2 rfl Yaa rfl Yab Xa;(exact Yae);exact rfl))
       all_goals ((apply Xu 3 rfl Yaa rfl Yaa Yab Xa;(exact Yag);exact rfl))
       all_goals ((apply Xc 4 rfl Yaa rfl Yab Xa;(exact Xe rfl);exact rfl))
       all_goals ((apply Xc 5 rfl Yaa rfl Yab Xa;(exact Xe rfl);exact rfl))
       all_goals ((apply Xc 6 rfl Yaa rfl Yab Xa;(exact Yae);exact rfl))
       all_goals ((apply Xu 7 rfl Yaa rfl Yaa Yab Xa;(exact Yag);exact rfl))
       all_goals ((apply Xc 8 rfl Yaa rfl Yab Xa;(exact Ybi);exact rfl))
       all_goals (refine X3 Yaa ?_)
       all_goals ((repeat' (first|refine Xf ?_|refine Xb ?_|refine Xd ?_|(apply Xk;(exact Xj rfl);exact rfl)|refine Xz ?_|(refine Xo rfl (fun hb=>?_) (fun hb=>?_)<;>(repeat (first|replace hb:=X0 hb|replace hb:=X1 hb|replace hb:=Vf hb|replace hb:=Vg hb))<;>(try (exfalso;omega))))))
       all_goals (try (exfalso;simp_all;done))
       refine ⟨.inr rfl,Vk rfl (.tmp rfl) (List.nil_sublist _) ⟨congrArg exB ?_,rfl⟩⟩
       exact (decide_eq_false fun e=>he Ydn).symm
   · have hk9:k=a.length:=by omega
     subst hk9
     rw [List.take_length,hl,List.take_length] at ht
     (repeat' (first|refine Xf ?_|refine Xb ?_|refine Xd ?_|(apply Xk;exact Ycz;exact rfl)|refine Xz ?_|refine Wy ?_|(refine Xo rfl (fun hb=>?_) (fun hb=>?_)<;>(repeat (first|replace hb:=X0 hb|replace hb:=X1 hb))<;>(try (exfalso;omega)))))
     refine ⟨.inr rfl,Vk rfl (.tmp rfl) (List.nil_sublist _) ⟨congrArg exB ?_,rfl⟩⟩
     exact (decide_eq_true ht).symm
 · (repeat' (first|refine Xf ?_|refine Xb ?_|refine Xd ?_|(apply Xk;exact Yai;exact rfl)|refine Xz ?_|(refine Xo rfl (fun hb=>?_) (fun hb=>?_)<;>(repeat (first|replace hb:=X0 hb|replace hb:=X1 hb|replace hb:=Vf hb|replace hb:=Vg hb))<;>(try (exfalso;omega)))))
   all_goals (try (exfalso;omega))
   refine ⟨.inr rfl,Vk rfl (.tmp rfl) (List.nil_sublist _) ⟨congrArg exB ?_,rfl⟩⟩
   exact (decide_eq_false fun e=>hl (by rw [e])).symm
end Go.Proofs.YthdldeenpgeemaaGreatDoor
namespace Go.Proofs.YthdldeenpgeemaaGreatDoor
open Go Go.RowKit Go.Kx Go.Fr
theorem Xfw (l:List (List UInt8)) (s:List UInt8) (hl:l.length<2 ^ 62):FnC Tryz.prog 179 [isl eStr l,exT s] [] (fun p loc=>p=exI .i64 (U2 l s)∧loc=[]):=by
 refine X4 Tryz.func179 rfl Tryz.ntmps179 rfl fun w0 F0 out=>?_
 (repeat' (first|refine Xf ?_|refine Xb ?_|refine Xd ?_|(apply Xk;exact Ybx;exact rfl)|refine Xp ?_))
 refine W1 (fun k:Nat=>([(0,isl eStr l),(1,exT s),(6,isl eStr l),(7,exI .i64 l.length),(8,exI .i64 k)],[])) (fun k=>k≤l.length∧ ∀j (h:j<k) (h2:j<l.length),l[j]≠s) (fun k=>l.length-k) 0 ?_ ⟨Nat.zero_le _,fun j h=>absurd h (Nat.not_lt_zero j)⟩ fun k hk=>?_
 · exact Xg (by repeat (first|exact Xm|refine Xh rfl ?_)) (List.Sublist.refl _)
 obtain ⟨hk,hn⟩:=hk
 by_cases hlt:k<l.length
 · by_cases he:s=l[k]
   · (repeat' (first|refine Xf ?_|refine Xb ?_|refine Xd ?_|(apply Xk;exact Ydg;exact rfl)|refine Xp ?_|refine Xs ?_|refine Xz ?_|(refine Xo rfl (fun hb=>?_) (fun hb=>?_)<;>(repeat (first|replace hb:=X0 hb|replace hb:=X1 hb))<;>(try (exfalso;omega)))))
     all_goals (try (exfalso;simp_all;done))
     refine ⟨.inr rfl,Vk rfl (.tmp rfl) (List.nil_sublist _) ⟨congrArg (exI .i64) ?_,rfl⟩⟩
     exact (Xjy hlt (fun j h=>hn j h Yan) he.symm).symm
   · (repeat' (first|refine Xf ?_|refine Xb ?_|refine Xd ?_|(apply Xk;exact Ydg;exact rfl)|refine Xp ?_|refine Xs ?_|refine Xz ?_|(refine Xo rfl (fun hb=>?_) (fun hb=>?_)<;>(repeat (first|replace hb:=X0 hb|replace hb:=X1 hb))<;>(try (exfalso;omega)))))
     all_goals (try (exfalso;simp_all;done))
     exact ⟨k+1,⟨by omega,fun j h h2=>by
       by_cases e:j=k
       · subst e;exact fun e=>he e.symm
       · exact hn j Yan h2⟩,by omega,Xg (by repeat (first|exact Xm|refine Xh rfl ?_)) (List.Sublist.refl _)⟩
 · have hk9:k=l.length:=by omega
   subst hk9
   (repeat' (first|refine Xf ?_|refine Xb ?_|refine Xd ?_|(apply Xk;exact Ybv;exact rfl)|refine Xz ?_|refine Wy ?_|(refine Xo rfl (fun hb=>?_) (fun hb=>?_)<;>(repeat (first|replace hb:=X0 hb|replace hb:=X1 hb))<;>(try (exfalso;omega)))))
   refine ⟨.inr rfl,Vk rfl (.tmp rfl) (List.nil_sublist _) ⟨congrArg (exI .i64) ?_,rfl⟩⟩
   exact (Xg7 fun j h=>hn j h h).symm
theorem S5 (l:List (List UInt8)) (s:List UInt8) (hl:l.length<2 ^ 62):FnC Tryz.prog 138 [isl eStr l,exT s] [] (fun p loc=>p=exB (decide (s∈l))∧loc=[]):=by
 refine X4 Tryz.func138 rfl Tryz.ntmps138 rfl fun w0 F0 out=>?_
 have hI:=Xfw l s hl
 (repeat' (first|refine Xf ?_|refine Xb ?_|refine Xd ?_|(apply Xk;exact Ycm;exact rfl)|refine Xz ?_|(apply Xi;exact rfl;(apply Xn;(refine X9 Tryz.func179 rfl hI rfl ?_;rintro _ _ ⟨rfl,rfl⟩)))))
 refine ⟨.inr rfl,Vk rfl (.tmp rfl) (List.nil_sublist _) ⟨congrArg exB ?_,rfl⟩⟩
 exact decide_eq_decide.2 (T0 l s)
def words14:List (List UInt8):=[
 [99,111,109,112,101,116,105,116,105,111,110],
 [99,114,105,116,101,114,105,111,110],
 [102,114,111,109],
 [116,111],
 [115,116,101,112],
 [115,117,109],
 [109,101,97,110],
 [116,114,105,109],
 [109,101,100,105,97,110],
 [114,101,118,101,114,115,101],
 [98,111,110,117,115],
 [118,97,108,117,101],
 [109,111,115,116],
 [109,97,108,117,115],
 [116,105,101],
 [116,111,116,97,108],
 [115,99,111,114,101],
 [104,105,103,104,101,115,116],
 [114,117,108,101],
 [108,111,116],
 [114,111,117,110,100],
 [112,97,110,101,108],
 [113,117,111,116,97],
 [111,118,101,114],
 [117,110,100,101,114],
 [108,111,116,115],
 [102,114,101,101],
 [112,108,97,99,101,115],
 [112,114,105,122,101,115],
 [112,111,105,110,116,115],
 [98,101,115,116],
 [108,101,97,115,116],
 [103,114,101,97,116,101,115,116],
 [105,102],
 [117,112,116,111],
 [116,104,101,110],
 [101,108,115,101],
 [101,110,100]]
end Go.Proofs.YthdldeenpgeemaaGreatDoor
namespace Go.Fr
open Go.RowKit Go.Kx
def Xdv (f:Fn) (ps qs:List SP):SP where
 rel F w u:= ∃xs vs:List Value,u= .func f xs.toArray vs.toArray∧CellsR F w ps xs∧CellsR F w qs vs
 mono:=fun ⟨xs,vs,h1,h2,h3⟩ hk=>⟨xs,vs,h1,h2.mono hk,h3.mono hk⟩
instance {f:Fn} {ps qs:List SP}:Sc (Xdv f ps qs):=⟨by rintro F w v ⟨xs,vs,rfl,_⟩;rfl⟩
section
variable {C:Cx} {S:(Nat→Prop)→World→World→Prop} {H:Nat→Prop} {env:Env} {loc:List Ent} {d:Nat} {dst:Option Tmp} {ty:TypeId} {pos:String} {af:Array Edge} {g:Option (Nat×Bool)} {K:Env→List Ent→Prop} {ops:Array Oper} {Q:Post} {rest:List Oper}
theorem Tg {fn:Fn} {firsts caps:Array Operand} {ps qs:List SP} (h1:firsts.toList.map (ev env)=ps.map some) (h2:caps.toList.map (ev env)=qs.map some):WT C S ⟨dst,.makeFunc fn firsts caps,ty,pos,af,g⟩ (Xdv fn ps qs) env loc:=by
 constructor
 intro F a w hR
 refine ⟨.func fn (firsts.toList.map a.eval).toArray (caps.toList.map a.eval).toArray,⟨_,_,rfl,Tb hR h1,Tb hR h2⟩,fun w' _=>?_⟩
 have e: ∀c:Array Operand,(c.toList.map a.eval).toArray=c.map a.eval:=fun c=>by apply Array.ext';simp
 rw [e,e]
 generalize a.eval=ρ
 simp [execOp,Instr.makeFunc,go_sem]
theorem Xlb {P:Program} {f:FuncId} {fn:Func} {c:Code} {x:Operand} {xs:Array Operand} {ts:Array TypeId} {dst:Option Nat} {a:Act} {us vs:List Value} (he:a.eval x= .func (.func f) us.toArray vs.toArray) (hf:P.funcs[f]?=some fn) (hbody:fn.body=some c) (hname:(fn.name== "runtime.NumGoroutine")=false) (w:World):
   (execOp a.eval ⟨dst,.call ⟨.value x,xs,ts⟩,ty,pos,af,g⟩).run P w= .ok (.enter f (us++xs.toList.map a.eval++vs).toArray) w:=by
 generalize a.eval=ρ at he ⊢
 have hx:xs.map ρ=(xs.toList.map ρ).toArray:=by apply Array.ext';simp
 simp only [execOp,resolve,he,Deferred.ofValue,Sem.run_bind,Sem.run_pure,Result.andThen_ok,invoke,callFunc]
 have hname': ¬fn.name= "runtime.NumGoroutine":=by simpa using hname
 simp [go_sem,hf,hname',hbody,hx]
theorem U9 {f:FuncId} {fn:Func} {c:Code} {x:Operand} {ps qs:List SP} {xs:Array Operand} {ts:Array TypeId} {args:List SP} {inn suf:List Ent} {R:SP→List Ent→Prop} {Rp:List PanicEntry→List Ent→Prop} (hx:ev env x=some (Xdv (.func f) ps qs)) (ht:Takes loc inn suf) (hf:C.P.funcs[f]?=some fn) (hbody:fn.body=some c) (hc:FnP C.P f (ps++args++qs) inn R Rp) (ha:xs.toList.map (ev env)=args.map some)
   (hk: ∀p loc',R p loc'→WPL C ops Q rest ((d,p)::env) (loc'++suf)) (hp: ∀ch loc',Rp ch loc'→Q (.panic ch) env (loc'++suf)) (hname:(fn.name== "runtime.NumGoroutine")=false:=by rfl) (hd:Nat.blt d C.N=true:=by rfl):WPL C ops Q (⟨some d,.call ⟨.value x,xs,ts⟩,ty,pos,af,none⟩::rest) env loc:=by
 constructor
 intro F a w hR
 refine wpList_plain rfl fun K hK=>?_
 have hG0:=ht.good hR.good
 obtain ⟨us,vs,he,h1,h2⟩:=X8 hR hx
 have hcv:CellsR F w (ps++args++qs) (us++xs.toList.map a.eval++vs):=(h1.app (Tb hR ha)).app h2
 unfold Oper.wp
 rw [Xlb he hf hbody hname]
 refine (hc F w _ _ hG0 hcv).mono ?_
 rintro e2 w' (⟨v,F',p,loc',rfl,hRp,hpr,hG,hch,hgr,hown⟩|⟨ch,F',loc',rfl,hRp,hG,hch,hgr,hown⟩)
 · exact hK _ _ ((hk p loc' hRp).out F' _ w' (hR.calledG ht hpr hG hch hgr hown hd))
 · exact ⟨F',env,_,hR.panicG ht hG hch hgr hown,hp ch loc' hRp⟩
theorem Wd {f:Env→List Ent→Prop} {ch:List PanicEntry} (h:Q (.panic ch) env loc):Xnn f Q (.panic ch) env loc:=h
theorem Wn {id:Nat} {ch:List PanicEntry} (h:Q (.panic ch) env loc):Xcq id Q (.panic ch) env loc:=h
def Xsh (K:List PanicEntry→List Ent→Prop) (Q:Post):Post
 | .panic ch=>fun _ loc=>K ch loc
 | e=>Q e
theorem Q5 {c:Code} {K:List PanicEntry→List Ent→Prop} (hk: ∀ch env loc,K ch loc→Q (.panic ch) env loc) (h:WP C c (Xsh K Q) env loc):WP C c Q env loc:=by
 constructor
 intro F a w hR
 refine Code.wp_mono ?_ (h.out F a w hR)
 rintro e a' w' ⟨F',env',loc',hR',hq⟩
 refine ⟨F',env',loc',hR',?_⟩
 cases e<;>first|exact hq|exact hk _ _ _ hq
def PE (Q:Post):Prop:= ∀c env env' loc,Q (.panic c) env loc→Q (.panic c) env' loc
theorem Vm {K:List PanicEntry→List Ent→Prop}:PE (Xsh K Q):=fun _ _ _ _ h=>h
theorem Xct {o:Oper} {v:Value} (hQ:PE Q): ∀c a w,Xnm C Q (.panic c) (a.put o.dst v) w→Xnm C Q (.panic c) a w:=by
 rintro c a w ⟨F,env,loc,hR,h⟩
 refine ⟨F,[],loc,⟨hR.good,fun t p hp=>(by cases hp),?_,?_,hR.ch,hR.own,hR.grow⟩,hQ c env [] loc h⟩
 · have:=hR.size
   cases hd:o.dst with
   | none=>rw [hd] at this;exact this
   | some d=>rw [hd] at this;simpa [Act.put] using this
 · have:=hR.defers
   cases hd:o.dst with
   | none=>rw [hd] at this;exact this
   | some d=>rw [hd] at this;simpa [Act.put] using this
theorem Wz {H:Nat→Prop} {n:Nat} {fuel:Nat} {listed:Array Bool} (i:Nat) {op:Op} {p:SP} (hi:ops[i]?=some ⟨some d,op,ty,pos,af,g⟩) (hb:Xdn ops listed i=true) (hin:Nat.blt i n=true) (hQ:PE Q) (hg:T3 C ops env g)
   (h:WT C Xsl ⟨some d,op,ty,pos,af,g⟩ p env loc) (hd:Nat.blt d C.N=true) (hk:WPY C H n ops Q fuel (listed.setIfInBounds i true) ((d,p)::env) loc):WPY C H n ops Q (fuel+1) listed env loc:=by
 constructor
 intro F a w hR
 obtain ⟨v,hp,hr⟩:=h.out F a w hR
 simp only [Xdn,Bool.and_eq_true] at hb
 exact So (S2:=fun _=>True) hi (Region.noSelect_spec hb.1.1) (Xct hQ) (U4 hin) (.inl fun _=>trivial) fuel listed a w (Region.free_spec hi hb.1.2) (by simpa using hb.2) (.inl ⟨hg F loc a w hR _ rfl,fun w' _=>hr w' trivial⟩) (fun _ _ _ _=>rfl) (.inl fun _=>trivial) (hk.out F _ w (hR.put hd hp))
theorem Un {H:Nat→Prop} {n:Nat} {fuel:Nat} {listed:Array Bool} (i:Nat) {op:Op} {p:SP} (hi:ops[i]?=some ⟨some d,op,ty,pos,af,g⟩) (hb:Xdn ops listed i=true) (hin:Nat.blt i n=true) (htl:(Xlk .any ops n i&&Ut n listed)=true) (hQ:PE Q) (hg:T3 C ops env g)
   (h:WT C (Xca H) ⟨some d,op,ty,pos,af,g⟩ p env loc) (hd:Nat.blt d C.N=true) (hk:WPY C H n ops Q fuel (listed.setIfInBounds i true) ((d,p)::env) loc):WPY C H n ops Q (fuel+1) listed env loc:=by
 constructor
 intro F a w hR
 obtain ⟨v,hp,hr⟩:=h.out F a w hR
 simp only [Xdn,Bool.and_eq_true] at hb htl
 exact So (S2:=Xca H F w) hi (Region.noSelect_spec hb.1.1) (Xct hQ) (U4 hin) (.inr ⟨fun _ h=>h,htl.1⟩) fuel listed a w (Region.free_spec hi hb.1.2) (by simpa using hb.2) (.inl ⟨hg F loc a w hR _ rfl,fun w' hw'=>hr w' hw'⟩) (fun _ _ _ _=>rfl) (.inr htl.2) (hk.out F _ w (hR.put hd hp))
structure WOP (C:Cx) (H:Nat→Prop) (o:Oper) (K:Env→List Ent→Prop) (Q:Post) (env:Env) (loc:List Ent):Prop where
 out: ∀F a w,Rel C F env loc a w→o.wp C.P a w (fun a' w'=> ∃F' env' loc',Rel C F' env' loc' a' w'∧w.heap.size≤w'.heap.size∧(∀b,F b→b<w.heap.size→F' b)∧(∀b,b<w.heap.size→F b∨H b→w'.heap[b]?=w.heap[b]?)∧K env' loc') (Xnm C Q)
theorem T1 {H H':Nat→Prop} {n:Nat} {fuel:Nat} {listed:Array Bool} {o:Oper} (i:Nat) (hr:Region.ready .any ops listed=[i]) (ho:ops[i]?=some o) (hg:T3 C ops env o.guard) (hH:Ut n (listed.setIfInBounds i true)=true→ ∀b,H b→H' b)
   (h:WOP C H' o (fun env loc=>WPY C H n ops Q fuel (listed.setIfInBounds i true) env loc) Q env loc):WPY C H n ops Q (fuel+1) listed env loc:=by
 constructor
 intro F a w hR
 refine ⟨fun h0=>(by rw [hr] at h0;cases h0),fun j hj=>?_⟩
 rw [hr,List.mem_singleton] at hj;subst hj
 unfold wpOp
 simp only [ho]
 rw [if_pos (hg F loc a w hR _ rfl)]
 refine .inl (Qr ?_ (fun _ _ _ h=>h) (h.out F a w hR))
 rintro a' w' ⟨F',env',loc',hR',hsz,hgr,hsame,hk⟩
 have h5:=hk.out F' a' w' hR'
 cases hnt:Ut n (listed.setIfInBounds j true) with
 | false=>exact ⟨fun h=>(by cases h),Rx _ _ _ _ hnt h5⟩
 | true=>
   refine ⟨fun _ b hb hFH=>hsame b hb (hFH.imp id fun h=>hH hnt b h),Sy (fun w2 h2 b hb hFH=>?_) _ _ _ _ h5⟩
   rw [h2 b (Nat.lt_of_lt_of_le hb hsz) (hFH.imp (fun h=>hgr b h hb) id)]
   exact hsame b hb (hFH.imp id fun h=>hH hnt b h)
theorem U3 {l0:List Ent} {f:FuncId} {fn:Func} {c:Code} {xs:Array Operand} {ts:Array TypeId} {args:List SP} {inn suf:List Ent} {R:SP→List Ent→Prop} {Rp:List PanicEntry→List Ent→Prop} (ht:Takes loc inn suf) (hf:C.P.funcs[f]?=some fn) (hbody:fn.body=some c) (hc:FnP C.P f args inn R Rp) (hsub:l0.Sublist suf) (ha:xs.toList.map (ev env)=args.map some)
   (hk: ∀p loc',R p loc'→K ((d,p)::env) (loc'++suf)) (hp: ∀ch loc',Rp ch loc'→Q (.panic ch) env (loc'++suf)) (hname:(fn.name== "runtime.NumGoroutine")=false:=by rfl) (hd:Nat.blt d C.N=true:=by rfl):WOP C (U6 l0) ⟨some d,.call ⟨.value (.func f),xs,ts⟩,ty,pos,af,g⟩ K Q env loc:=by
 constructor
 intro F a w hR
 have hG0:=ht.good hR.good
 unfold Oper.wp
 rw [Xas hf hbody hname]
 refine (hc F w _ _ hG0 (Tb hR ha)).mono ?_
 rintro e2 w' (⟨v,F',p,loc',rfl,hRp,hpr,hG,hch,hgr,hown⟩|⟨ch,F',loc',rfl,hRp,hG,hch,hgr,hown⟩)
 · refine ⟨F',_,_,hR.calledG ht hpr hG hch hgr hown hd,hch.size,hgr,fun b hb hF=>hch.block b hb ?_,hk p loc' hRp⟩
   rintro ⟨e',he',h⟩
   rcases hF with hF|⟨e0,he0,hb0⟩
   · exact (hG0.lt _ (List.mem_append_left _ he') b h).2 hF
   · exact (List.pairwise_append.1 hG0.disj).2.2 e' he' e0 (List.mem_append_left _ (hsub.subset he0)) b h hb0
 · exact ⟨F',env,_,hR.panicG ht hG hch hgr hown,hp ch loc' hRp⟩
end
end Go.Fr
namespace Go.Fr
open Go.RowKit Go.Kx
theorem Qh {ps qs ps' qs':List SP} (h:Ims ps qs) (h':Ims ps' qs'):Ims (ps++ps') (qs++qs'):=by
 induction h with
 | nil=>exact h'
 | cons h _ ih=>exact .cons h ih
theorem Xit {k k':Nat} (h:k≤k'): ∀l:List Ex,Ims (l.flatMap (exV k)) (l.flatMap (exV k'))
 | []=> .nil
 | x::l=>by
   rw [List.flatMap_cons,List.flatMap_cons]
   exact Qh (Xab h x) (Xit h l)
theorem Rf {C:Cx} {env:Env} {loc:List Ent} {k T sz n:Nat} {v:Value} {ps qs:List SP} (he:loc[k]?=some (vec v T sz n ps)) (h:Ims ps qs):Leads C env loc env (loc.set k (vec v T sz n qs)):=
 (Qc (e':=vec v T sz n qs) he (fun _ hx=>hx) (by
   rintro F w ⟨xs,h1,h2⟩
   exact ⟨xs,h1,h.cells h2⟩)).leads
theorem Xfx {C:Cx} {H:Nat→Prop} {o:Oper} {K:Env→List Ent→Prop} {env:Env} {loc:List Ent} {k T sz n:Nat} {v:Value} {ps:List SP} (he:loc[k]?=some (vec v T sz n ps)) (h: ∀oa c,v= .slice oa n c→WO C H o K env loc):WO C H o K env loc:=⟨fun F a w hR=>by obtain ⟨b,c,hv⟩:=Xc5 hR he;exact (h b c hv).out F a w hR⟩
end Go.Fr
namespace Go.Fr
open Go.RowKit Go.Kx
section
variable {C:Cx} {S:(Nat→Prop)→World→World→Prop} {env:Env} {loc:List Ent} {dst:Option Tmp} {ty:TypeId} {pos:String} {af:Array Edge} {g:Option (Nat×Bool)}
theorem Xj0 {x:Operand} {xT T:TypeId} {v:Value} {dd:TypeDesc} (hx:ev env x=some (ex (.iface T (.agg #[v])))) (ht:C.P.underlying T=some dd) (hn:concB dd=true:=by rfl):WT C S ⟨dst,.typeAssert x xT T true,ty,pos,af,g⟩ (tup [agg [ex v],exB true]) env loc:=by
 constructor
 intro F a w hR
 have hv:a.eval x= .iface T (.agg #[v]):=X8 hR hx
 refine ⟨.tuple #[.agg #[v],.bool true],⟨[.agg #[v],.bool true],rfl,.cons ⟨[v],rfl,.cons rfl .nil⟩ (.cons rfl .nil)⟩,fun w' _=>?_⟩
 generalize a.eval=ρ at hv ⊢
 cases dd<;>first|(cases hn;done)|simp [execOp,Instr.typeAssert,hv,Vz ht,go_sem]
end
end Go.Fr
namespace Go.Proofs.YthdldeenpgeemaaGreatDoor
open Go Go.RowKit Go.Kx Go.Fr Go.Lx Go.Sx
theorem Xiu (w:List UInt8) (t:TokD) (r:List TokD):isT w (t::r)=(decide (t.kind≠2)&&decide (t.text=w)):=rfl
abbrev Ug (b:Nat) (ts:List TokD) (en:Nat) (qs:List SP):Ent:=row b 143 11 (isl eTok ts::exI .i64 (en:Int)::qs)
def Ua (en:Nat) (e:List TokD) (ch:List PanicEntry) (loc:List Ent):Prop:=ch=[{ v:= .iface 139 (.agg #[.int .i64 (Xgq en e)]),recovered:=false }]∧loc=[]
theorem Sd (b:Nat) (ts:List TokD) (en:Nat) (qs:List SP):FnP Tryz.prog 87 [ex (.pointer (some ⟨b,0,none⟩))] [Ug b ts en qs] (fun _ _=>False) (Ua en ts):=by
 refine Ww Tryz.func87 rfl Tryz.ntmps87 rfl fun w0 F0 out=>?_
 cases ts with
 | nil=>
   (repeat' (first|(refine Rs rfl ?_)|refine Xf ?_|refine Xb ?_|refine Xd ?_|(apply Xk;(first|exact Xe rfl|exact Yaf|exact Yad|exact Ybo|exact Yaq|exact Ya7|exact Yam|(apply Xdc;exact Xis rfl rfl));exact rfl)|refine Xs ?_|refine X2 rfl ?_))
   all_goals (try (exfalso;first|contradiction|omega))
   all_goals (first|refine Xv (loc':=[]) (List.nil_sublist _) ?_|refine U1 (Xv (loc':=[]) (List.nil_sublist _) ?_))
   all_goals exact And.intro rfl rfl
 | cons t ts=>
   have hl:(t::ts).length=ts.length+1:=rfl
   (repeat' (first|(refine Rs rfl ?_)|refine Xf ?_|refine Xb ?_|refine Xd ?_|(apply Xk;(first|exact Xe rfl|exact Ybd|exact Ya9|exact Ybo|exact Yae|exact Yaq|exact Ya7|exact Yam|(apply Xdc;exact Xis rfl rfl));exact rfl)|(refine Xo rfl (fun hb=>?_) (fun hb=>?_)<;>(repeat (first|replace hb:=X0 hb|replace hb:=X1 hb))<;>(try (exfalso;omega)))))
   all_goals (try (exfalso;first|contradiction|omega))
   all_goals (first|refine Xv (loc':=[]) (List.nil_sublist _) ?_|refine U1 (Xv (loc':=[]) (List.nil_sublist _) ?_))
   all_goals exact And.intro rfl rfl
theorem W4 (b:Nat) (ts:List TokD) (en:Nat) (qs:List SP) (w:List UInt8):FnC Tryz.prog 184 [ex (.pointer (some ⟨b,0,none⟩)),exT w] [Ug b ts en qs] (fun p loc=>p=exB (isT w ts)∧loc=[Ug b ts en qs]):=by
 refine X4 Tryz.func184 rfl Tryz.ntmps184 rfl fun w0 F0 out=>?_
 cases ts with
 | nil=>
   (repeat' (first|refine Xf ?_|refine Xb ?_|refine Xd ?_|(apply Xk;exact Yda;exact rfl)|(refine Ve rfl rfl rfl rfl rfl ?_)|refine Xz ?_))
   all_goals (try (exfalso;first|contradiction|omega))
   all_goals exact ⟨.inr rfl,Vk rfl (.tmp rfl) (List.Sublist.refl _) ⟨rfl,rfl⟩⟩
 | cons t ts=>
   have hl:(t::ts).length=ts.length+1:=rfl
   by_cases hk:(t::ts)[0].kind=2
   · have hT:isT w (t::ts)=false:=by rw [Xiu,show decide (t.kind≠2)=false from decide_eq_false fun h=>h hk];rfl
     rw [hT]
     (repeat' (first|refine Xf ?_|refine Xb ?_|refine Xd ?_|(apply Xk;(first|exact Xe rfl|exact Xj rfl|exact Wk (b:=true) rfl (fun _=>rfl) (fun e=>by cases e)|exact Wk (b:=false) rfl (fun e=>by cases e) (fun _=>rfl)|exact Yaf|exact Yad|exact Ybo|exact Yaq|exact Yam);exact rfl)|(refine Ve rfl rfl rfl rfl rfl ?_)|(apply Vh;exact rfl;exact rfl;exact rfl;(first|exact Xe rfl|exact Ybd|exact Ya9|exact Ybi|exact Yae|exact Yam);exact rfl)|refine Xz ?_|(refine W0 rfl rfl (fun hb=>?_) (fun hb=>?_)<;>(repeat (first|replace hb:=X0 hb|replace hb:=X1 hb|replace hb:=Vf hb|replace hb:=Vg hb))<;>(try (exfalso;first|contradiction|omega)))))
     all_goals (try (exfalso;first|contradiction|omega))
     all_goals exact ⟨.inr rfl,Vk rfl (.tmp rfl) (List.Sublist.refl _) ⟨rfl,rfl⟩⟩
   · have hT:isT w (t::ts)=decide (t.text=w):=by rw [Xiu,show decide (t.kind≠2)=true from decide_eq_true hk];rfl
     rw [hT]
     (repeat' (first|refine Xf ?_|refine Xb ?_|refine Xd ?_|(apply Xk;exact Ydc;exact rfl)|(apply Vh;exact rfl;exact rfl;exact rfl;(first|exact Xe rfl|exact Ybd|exact Ya9|(apply V1;first|exact Xav rfl rfl|exact Xbe rfl rfl)|exact Yae|exact Yam);exact rfl)|refine Xz ?_|(refine W0 rfl rfl (fun hb=>?_) (fun hb=>?_)<;>(repeat (first|replace hb:=X0 hb|replace hb:=X1 hb|replace hb:=Vf hb|replace hb:=Vg hb))<;>(try (exfalso;first|contradiction|omega)))))
     all_goals (try (exfalso;first|contradiction|omega))
     all_goals exact ⟨.inr rfl,Vk rfl (.tmp rfl) (List.Sublist.refl _) ⟨rfl,rfl⟩⟩
theorem Tn {w:List UInt8} {ts:List TokD} (h:isT w ts=true):want w ts= .ok ((),ts.tail):=if_pos h
theorem Xg8 {w:List UInt8} {ts:List TokD} (h:isT w ts=false):want w ts= .error ts:=if_neg (by rw [h];simp)
theorem Wv (b:Nat) (ts:List TokD) (en:Nat) (qs:List SP) (w:List UInt8):FnC Tryz.prog 155 [ex (.pointer (some ⟨b,0,none⟩)),exT w] [Ug b ts en qs] (fun p loc=>p=exB (isT w ts)∧loc=[Ug b (if isT w ts then ts.tail else ts) en qs]):=by
 have his:=W4 b ts en qs w
 refine X4 Tryz.func155 rfl Tryz.ntmps155 rfl fun w0 F0 out=>?_
 cases hT:isT w ts
 · rw [hT] at his
   (repeat' (first|refine Xf ?_|refine Xb ?_|refine Xd ?_|(apply Xk;exact Ya0;exact rfl)|refine Xs ?_|refine Xz ?_|refine X2 rfl ?_|(apply Xi;exact rfl;(apply Xn;(refine Xl (.one 0 rfl .nil) Tryz.func184 rfl his rfl ?_;rintro _ _ ⟨rfl,rfl⟩)))))
   all_goals (try (exfalso;first|contradiction|omega))
   all_goals exact ⟨.inr rfl,Vk rfl (.tmp rfl) (List.Sublist.refl _) ⟨rfl,rfl⟩⟩
 · rw [hT] at his
   obtain ⟨t,r,rfl,-,-⟩:=R6 hT
   have hl:(t::r).length=r.length+1:=rfl
   (repeat' (first|refine Xf ?_|refine Xb ?_|refine Xd ?_|(apply Xk;(first|exact Xe rfl|exact Xj rfl|exact Yaf|exact Yad|(apply Rm;exact Xil rfl rfl rfl)|exact Yam);exact rfl)|refine Xz ?_|refine Xx rfl ?_|(apply Xi;exact rfl;first|(apply Xn;(refine Xl (.one 0 rfl .nil) Tryz.func184 rfl his rfl ?_;rintro _ _ ⟨rfl,rfl⟩))|(apply Xt;refine Xq (k:=0) (l0:=[]) rfl rfl rfl ?_))))
   all_goals (try (exfalso;first|contradiction|omega))
   all_goals exact ⟨.inr rfl,Vk rfl (.tmp rfl) (List.Sublist.refl _) ⟨rfl,rfl⟩⟩
theorem Vn (b:Nat) (ts:List TokD) (en:Nat) (qs:List SP) (w:List UInt8):FnP Tryz.prog 146 [ex (.pointer (some ⟨b,0,none⟩)),exT w] [Ug b ts en qs] (fun _ loc=> ∃r,want w ts= .ok ((),r)∧loc=[Ug b r en qs]) (fun ch loc=> ∃e,want w ts= .error e∧Ua en e ch loc):=by
 have htk:=Wv b ts en qs w
 have hfa:=Sd b ts en qs
 refine Ww Tryz.func146 rfl Tryz.ntmps146 rfl fun w0 F0 out=>?_
 cases hT:isT w ts
 · rw [hT,if_neg Ybn] at htk
   (repeat' (first|(apply Xy 9;refine X6 (.one 0 rfl .nil) Tryz.func87 rfl hfa rfl ?_ ?_)|refine Xf ?_|refine Xb ?_|refine Xd ?_|(apply Xk;exact Ybt;exact rfl)|refine Xx rfl ?_|(apply Xi;exact rfl;(apply Xn;(refine Xl (.one 0 rfl .nil) Tryz.func155 rfl htk rfl ?_;rintro _ _ ⟨rfl,rfl⟩)))))
   all_goals (try (exfalso;first|contradiction|omega))
   · rintro _ _ h;exact h.elim
   · rintro ch loc ⟨rfl,rfl⟩
     first|refine Xv (loc':=[]) (List.nil_sublist _) ?_|refine U1 (Xv (loc':=[]) (List.nil_sublist _) ?_)
     exact ⟨ts,Xg8 hT,rfl,rfl⟩
 · rw [hT,if_pos rfl] at htk
   (repeat' (first|refine Xf ?_|refine Xb ?_|refine Xd ?_|(apply Xk;exact Ybt;exact rfl)|refine Xs ?_|refine X2 rfl ?_|(apply Xi;exact rfl;(apply Xn;(refine Xl (.one 0 rfl .nil) Tryz.func155 rfl htk rfl ?_;rintro _ _ ⟨rfl,rfl⟩)))))
   all_goals (try (exfalso;first|contradiction|omega))
   exact ⟨.inl rfl,Rn rfl (List.Sublist.refl _) ⟨_,Tn hT,rfl⟩⟩
theorem Xg9 (t:TokD) (r:List TokD):Sx.isName (t::r)=(decide (t.kind=1)&& !Tk t.text):=rfl
theorem Xdw (t:TokD) (r:List TokD):isNum (t::r)=decide (t.kind=2):=rfl
theorem words13_any:FnC Tryz.prog 166 [] [] (fun p loc=>p=isl eStr wordsL∧loc=[]):=by
 refine X4 Tryz.func166 rfl Tryz.ntmps166 rfl fun w0 F0 out=>?_
 (repeat' (first|(apply Xy 0;refine Wj (k:=0) (E:=eStr) (t:=1) wordsL rfl rfl rfl rfl ?_ (hc:=by decide) (hby:=by decide))|refine Xf ?_|refine Xb ?_|refine Xd ?_|(apply Xk;(exact Xj rfl);exact rfl)|refine Xz ?_|(apply Xi;exact rfl;(apply X5;(refine Wq rfl Yac ?_);intro _))))
 all_goals exact ⟨.inr rfl,Vk rfl (.tmp rfl) (List.nil_sublist _) ⟨rfl,rfl⟩⟩
theorem Vw (b:Nat) (ts:List TokD) (en:Nat) (qs:List SP):FnC Tryz.prog 183 [ex (.pointer (some ⟨b,0,none⟩))] [Ug b ts en qs] (fun p loc=>p=exB (Sx.isName ts)∧loc=[Ug b ts en qs]):=by
 refine X4 Tryz.func183 rfl Tryz.ntmps183 rfl fun w0 F0 out=>?_
 cases ts with
 | nil=>
   (repeat' (first|(apply W2 1;refine Stop.out ?_)|refine Xf ?_|refine Xb ?_|refine Xd ?_|(apply Xk;(exact Xj rfl);exact rfl)))
   refine ⟨?_⟩
   (refine W9 29 rfl ?_)
   all_goals ((apply Xc 0 rfl Yaa rfl Yab Xa;(exact Xe rfl);exact rfl))
   all_goals ((apply Xc 1 rfl Yaa rfl Yab Xa;(exact Yam);exact rfl))
   all_goals ((apply Xc 2 rfl Yaa rfl Yab Xa;(exact Yad);exact rfl))
   all_goals ((apply Xu 3 rfl Yaa rfl Yaa Yab Xa;(exact Yaf);exact rfl))
   all_goals ((apply Xc 4 rfl Yaa rfl Yab Xa;(exact Yaq);exact rfl))
   all_goals ((apply Xc 5 rfl Yaa rfl Yab Xa;(exact Ybo);exact rfl))
   all_goals ((apply Xc 6 rfl Yaa rfl Yab Xa;(exact Xe rfl);exact rfl))
   all_goals (first|(refine Rg 9 rfl (fun hb=>?_) (fun hb=>?_)<;>(repeat (first|replace hb:=X0 hb|replace hb:=X1 hb|replace hb:=Vf hb|replace hb:=Vg hb))<;>(try (exfalso;first|(cases hb;done)|contradiction|omega)))|skip)
   all_goals ((refine W6 7 rfl Yaa rfl Yab rfl rfl rfl rfl rfl ?_))
   all_goals ((refine W6 8 rfl Yaa rfl Yab rfl rfl rfl rfl rfl ?_))
   all_goals ((refine W6 9 rfl Yaa rfl Yab rfl rfl rfl rfl rfl ?_))
   all_goals ((refine W6 10 rfl Yaa rfl Yab rfl rfl rfl rfl rfl ?_))
   all_goals ((refine W6 11 rfl Yaa rfl Yab rfl rfl rfl rfl rfl ?_))
   all_goals ((refine W6 12 rfl Yaa rfl Yab rfl rfl rfl rfl rfl ?_))
   all_goals ((refine W6 13 rfl Yaa rfl Yab rfl rfl rfl rfl rfl ?_))
   all_goals ((refine W6 14 rfl Yaa rfl Yab rfl rfl rfl rfl rfl ?_))
   all_goals ((apply Xc 15 rfl Yaa rfl Yab Xa;(exact Wk (b:=false) rfl (fun e=>by cases e) (fun _=>rfl));exact rfl))
   all_goals ((apply Xc 16 rfl Yaa rfl Yab Xa;(exact Xe rfl);exact rfl))
   all_goals (first|(refine Rg 19 rfl (fun hb=>?_) (fun hb=>?_)<;>(repeat (first|replace hb:=X0 hb|replace hb:=X1 hb|replace hb:=Vf hb|replace hb:=Vg hb))<;>(try (exfalso;first|(cases hb;done)|contradiction|omega)))|skip)
   all_goals ((refine W6 18 rfl Yaa rfl Yab rfl rfl rfl rfl rfl ?_))
   all_goals ((refine W6 19 rfl Yaa rfl Yab rfl rfl rfl rfl rfl ?_))
   all_goals ((refine W6 20 rfl Yaa rfl Yab rfl rfl rfl rfl rfl ?_))
   all_goals ((refine W6 21 rfl Yaa rfl Yab rfl rfl rfl rfl rfl ?_))
   all_goals ((refine W6 22 rfl Yaa rfl Yab rfl rfl rfl rfl rfl ?_))
   all_goals ((refine W6 23 rfl Yaa rfl Yab rfl rfl rfl rfl rfl ?_))
   all_goals ((refine W6 24 rfl Yaa rfl Yab rfl rfl rfl rfl rfl ?_))
   all_goals ((refine W6 17 rfl Yaa rfl Yab rfl rfl rfl rfl rfl ?_))
   all_goals ((refine W6 25 rfl Yaa rfl Yab rfl rfl rfl rfl rfl ?_))
   all_goals ((refine W6 26 rfl Yaa rfl Yab rfl rfl rfl rfl rfl ?_))
   all_goals ((apply Xc 27 rfl Yaa rfl Yab Xa;(exact Wk (b:=false) rfl (fun e=>by cases e) (fun _=>rfl));exact rfl))
   all_goals ((apply Xc 28 rfl Yaa rfl Yab Xa;(exact Xj rfl);exact rfl))
   all_goals (refine X3 Yaa ?_)
   all_goals ((repeat' (refine Xz ?_)))
   all_goals (try (exfalso;first|contradiction|omega))
   all_goals exact ⟨.inr rfl,Vk rfl (.tmp rfl) (List.Sublist.refl _) ⟨rfl,rfl⟩⟩
 | cons t ts=>
   have hl:(t::ts).length=ts.length+1:=rfl
   have hw:=words13_any
   have hC:=S5 wordsL (t::ts)[0].text Yar
   rw [Xg9]
   by_cases hk:(t::ts)[0].kind=1
   · have hT:(decide (t.kind=1)&& !Tk t.text)= !decide ((t::ts)[0].text∈wordsL):=by rw [show decide (t.kind=1)=true from decide_eq_true hk];rfl
     rw [hT]
     (repeat' (first|(apply W2 1;refine Stop.out ?_)|refine Xf ?_|refine Xb ?_|refine Xd ?_|(apply Xk;(exact Xj rfl);exact rfl)))
     refine ⟨?_⟩
     (refine W9 29 rfl ?_)
     all_goals ((apply Xc 0 rfl Yaa rfl Yab Xa;(exact Xe rfl);exact rfl))
     all_goals ((apply Xc 1 rfl Yaa rfl Yab Xa;(exact Yam);exact rfl))
     all_goals ((apply Xc 2 rfl Yaa rfl Yab Xa;(exact Yad);exact rfl))
     all_goals ((apply Xu 3 rfl Yaa rfl Yaa Yab Xa;(exact Yaf);exact rfl))
     all_goals ((apply Xc 4 rfl Yaa rfl Yab Xa;(exact Yaq);exact rfl))
     all_goals ((apply Xc 5 rfl Yaa rfl Yab Xa;(exact Ybo);exact rfl))
     all_goals ((apply Xc 6 rfl Yaa rfl Yab Xa;(exact Xe rfl);exact rfl))
     all_goals (first|(refine Rg 9 rfl (fun hb=>?_) (fun hb=>?_)<;>(repeat (first|replace hb:=X0 hb|replace hb:=X1 hb|replace hb:=Vf hb|replace hb:=Vg hb))<;>(try (exfalso;first|(cases hb;done)|contradiction|omega)))|skip)
     all_goals ((apply Xc 7 rfl Yaa rfl Yab (Wg rfl rfl rfl);(exact Xe rfl);exact rfl))
     all_goals ((apply Xc 8 rfl Yaa rfl Yab (Wg rfl rfl rfl);(exact Yam);exact rfl))
     all_goals ((apply Xc 9 rfl Yaa rfl Yab (Wg rfl rfl rfl);(exact Yad);exact rfl))
     all_goals ((apply Xu 10 rfl Yaa rfl Yaa Yab (Wg rfl rfl rfl);(exact Yaf);exact rfl))
     all_goals ((apply Xc 11 rfl Yaa rfl Yab (Wg rfl rfl rfl);(exact Yae);exact rfl))
     all_goals ((apply Xc 12 rfl Yaa rfl Yab (Wg rfl rfl rfl);(exact Yaj);exact rfl))
     all_goals ((apply Xu 13 rfl Yaa rfl Yaa Yab (Wg rfl rfl rfl);(exact Yag);exact rfl))
     all_goals ((apply Xc 14 rfl Yaa rfl Yab (Wg rfl rfl rfl);(exact Ybc);exact rfl))
     all_goals ((apply Xc 15 rfl Yaa rfl Yab Xa;(exact Wk (b:=true) rfl (fun _=>rfl) (fun e=>by cases e));exact rfl))
     all_goals ((apply Xc 16 rfl Yaa rfl Yab Xa;(exact Xe rfl);exact rfl))
     all_goals (first|(refine Rg 19 rfl (fun hb=>?_) (fun hb=>?_)<;>(repeat (first|replace hb:=X0 hb|replace hb:=X1 hb|replace hb:=Vf hb|replace hb:=Vg hb))<;>(try (exfalso;first|(cases hb;done)|contradiction|omega)))|skip)
     all_goals ((apply Xc 18 rfl Yaa rfl Yab (Wg rfl rfl rfl);(exact Xe rfl);exact rfl))
     all_goals ((apply Xc 19 rfl Yaa rfl Yab (Wg rfl rfl rfl);(exact Yam);exact rfl))
     all_goals ((apply Xc 20 rfl Yaa rfl Yab (Wg rfl rfl rfl);(exact Yad);exact rfl))
     all_goals ((apply Xu 21 rfl Yaa rfl Yaa Yab (Wg rfl rfl rfl);(exact Yaf);exact rfl))
     all_goals ((apply Xc 22 rfl Yaa rfl Yab (Wg rfl rfl rfl);(exact Yae);exact rfl))
     all_goals ((apply Xc 23 rfl Yaa rfl Yab (Wg rfl rfl rfl);(exact Yaj);exact rfl))
     all_goals ((apply Xu 24 rfl Yaa rfl Yaa Yab (Wg rfl rfl rfl);(exact Yag);exact rfl))
     all_goals ((apply Xr 17;exact Yaa;exact rfl;exact (Wg rfl rfl rfl);exact (fun _ _ h=>h);(apply Xn;(refine X9 Tryz.func166 rfl hw rfl ?_;rintro _ _ ⟨rfl,rfl⟩))))
     all_goals ((apply Xr 25;exact Yaa;exact rfl;exact (Wg rfl rfl rfl);exact (fun _ _ h=>h);(apply Xn;(refine X9 Tryz.func138 rfl hC rfl ?_;rintro _ _ ⟨rfl,rfl⟩))))
     all_goals ((apply Xc 26 rfl Yaa rfl Yab (Wg rfl rfl rfl);(exact Yaw);exact rfl))
     all_goals ((apply Xc 27 rfl Yaa rfl Yab Xa;(exact Wk (b:=true) rfl (fun _=>rfl) (fun e=>by cases e));exact rfl))
     all_goals ((apply Xc 28 rfl Yaa rfl Yab Xa;(exact Xj rfl);exact rfl))
     all_goals (refine X3 Yaa ?_)
     all_goals ((repeat' (refine Xz ?_)))
     all_goals (try (exfalso;first|contradiction|omega))
     all_goals exact ⟨.inr rfl,Vk rfl (.tmp rfl) (List.Sublist.refl _) ⟨rfl,rfl⟩⟩
   · have hT:(decide (t.kind=1)&& !Tk t.text)=false:=by rw [show decide (t.kind=1)=false from decide_eq_false hk];rfl
     rw [hT]
     (repeat' (first|(apply W2 1;refine Stop.out ?_)|refine Xf ?_|refine Xb ?_|refine Xd ?_|(apply Xk;(exact Xj rfl);exact rfl)))
     refine ⟨?_⟩
     (refine W9 29 rfl ?_)
     all_goals ((apply Xc 0 rfl Yaa rfl Yab Xa;(exact Xe rfl);exact rfl))
     all_goals ((apply Xc 1 rfl Yaa rfl Yab Xa;(exact Yam);exact rfl))
     all_goals ((apply Xc 2 rfl Yaa rfl Yab Xa;(exact Yad);exact rfl))
     all_goals ((apply Xu 3 rfl Yaa rfl Yaa Yab Xa;(exact Yaf);exact rfl))
     all_goals ((apply Xc 4 rfl Yaa rfl Yab Xa;(exact Yaq);exact rfl))
     all_goals ((apply Xc 5 rfl Yaa rfl Yab Xa;(exact Ybo);exact rfl))
     all_goals ((apply Xc 6 rfl Yaa rfl Yab Xa;(exact Xe rfl);exact rfl))
     all_goals (first|(refine Rg 9 rfl (fun hb=>?_) (fun hb=>?_)<;>(repeat (first|replace hb:=X0 hb|replace hb:=X1 hb|replace hb:=Vf hb|replace hb:=Vg hb))<;>(try (exfalso;first|(cases hb;done)|contradiction|omega)))|skip)
     all_goals ((apply Xc 7 rfl Yaa rfl Yab (Wg rfl rfl rfl);(exact Xe rfl);exact rfl))
     all_goals ((apply Xc 8 rfl Yaa rfl Yab (Wg rfl rfl rfl);(exact Yam);exact rfl))
     all_goals ((apply Xc 9 rfl Yaa rfl Yab (Wg rfl rfl rfl);(exact Yad);exact rfl))
     all_goals ((apply Xu 10 rfl Yaa rfl Yaa Yab (Wg rfl rfl rfl);(exact Yaf);exact rfl))
     all_goals ((apply Xc 11 rfl Yaa rfl Yab (Wg rfl rfl rfl);(exact Yae);exact rfl))
     all_goals ((apply Xc 12 rfl Yaa rfl Yab (Wg rfl rfl rfl);(exact Yaj);exact rfl))
     all_goals ((apply Xu 13 rfl Yaa rfl Yaa Yab (Wg rfl rfl rfl);(exact Yag);exact rfl))
     all_goals ((apply Xc 14 rfl Yaa rfl Yab (Wg rfl rfl rfl);(exact Ybc);exact rfl))
     all_goals ((apply Xc 15 rfl Yaa rfl Yab Xa;(exact Wk (b:=true) rfl (fun _=>rfl) (fun e=>by cases e));exact rfl))
     all_goals ((apply Xc 16 rfl Yaa rfl Yab Xa;(exact Xe rfl);exact rfl))
     all_goals (first|(refine Rg 19 rfl (fun hb=>?_) (fun hb=>?_)<;>(repeat (first|replace hb:=X0 hb|replace hb:=X1 hb|replace hb:=Vf hb|replace hb:=Vg hb))<;>(try (exfalso;first|(cases hb;done)|contradiction|omega)))|skip)
     all_goals ((refine W6 18 rfl Yaa rfl Yab rfl rfl rfl rfl rfl ?_))
     all_goals ((refine W6 19 rfl Yaa rfl Yab rfl rfl rfl rfl rfl ?_))
     all_goals ((refine W6 20 rfl Yaa rfl Yab rfl rfl rfl rfl rfl ?_))
     all_goals ((refine W6 21 rfl Yaa rfl Yab rfl rfl rfl rfl rfl ?_))
     all_goals ((refine W6 22 rfl Yaa rfl Yab rfl rfl rfl rfl rfl ?_))
     all_goals ((refine W6 23 rfl Yaa rfl Yab rfl rfl rfl rfl rfl ?_))
     all_goals ((refine W6 24 rfl Yaa rfl Yab rfl rfl rfl rfl rfl ?_))
     all_goals ((refine W6 17 rfl Yaa rfl Yab rfl rfl rfl rfl rfl ?_))
     all_goals ((refine W6 25 rfl Yaa rfl Yab rfl rfl rfl rfl rfl ?_))
     all_goals ((refine W6 26 rfl Yaa rfl Yab rfl rfl rfl rfl rfl ?_))
     all_goals ((apply Xc 27 rfl Yaa rfl Yab Xa;(exact Wk (b:=false) rfl (fun e=>by cases e) (fun _=>rfl));exact rfl))
     all_goals ((apply Xc 28 rfl Yaa rfl Yab Xa;(exact Xj rfl);exact rfl))
     all_goals (refine X3 Yaa ?_)
     all_goals ((repeat' (refine Xz ?_)))
     all_goals (try (exfalso;first|contradiction|omega))
     all_goals exact ⟨.inr rfl,Vk rfl (.tmp rfl) (List.Sublist.refl _) ⟨rfl,rfl⟩⟩
theorem Rj (b:Nat) (ts:List TokD) (en:Nat) (qs:List SP):FnC Tryz.prog 190 [ex (.pointer (some ⟨b,0,none⟩))] [Ug b ts en qs] (fun p loc=>p=exB (isNum ts)∧loc=[Ug b ts en qs]):=by
 refine X4 Tryz.func190 rfl Tryz.ntmps190 rfl fun w0 F0 out=>?_
 cases ts with
 | nil=>
   (repeat' (first|refine Xf ?_|refine Xb ?_|refine Xd ?_|(apply Xk;exact Yda;exact rfl)|(refine Ve rfl rfl rfl rfl rfl ?_)|refine Xz ?_))
   all_goals (try (exfalso;first|contradiction|omega))
   all_goals exact ⟨.inr rfl,Vk rfl (.tmp rfl) (List.Sublist.refl _) ⟨rfl,rfl⟩⟩
 | cons t ts=>
   have hl:(t::ts).length=ts.length+1:=rfl
   rw [Xdw]
   (repeat' (first|refine Xf ?_|refine Xb ?_|refine Xd ?_|(apply Xk;exact Ydc;exact rfl)|(apply Vh;exact rfl;exact rfl;exact rfl;exact Ydh;exact rfl)|refine Xz ?_|(refine W0 rfl rfl (fun hb=>?_) (fun hb=>?_)<;>(repeat (first|replace hb:=X0 hb|replace hb:=X1 hb))<;>(try (exfalso;omega)))))
   all_goals (try (exfalso;first|contradiction|omega))
   all_goals exact ⟨.inr rfl,Vk rfl (.tmp rfl) (List.Sublist.refl _) ⟨rfl,rfl⟩⟩
theorem Xiv {t:TokD} {r:List TokD} (h:Sx.isName (t::r)=true):nameP (t::r)= .ok (t.text,r):=if_pos h
theorem Xpz {ts:List TokD} (h:Sx.isName ts=false):nameP ts= .error ts:=by
 cases ts with
 | nil=>rfl
 | cons t r=>exact if_neg (by rw [h];simp)
theorem Xha {t:TokD} {r:List TokD} (h:isNum (t::r)=true):numP (t::r)= .ok (t.n,r):=if_pos h
theorem Xo8 {ts:List TokD} (h:isNum ts=false):numP ts= .error ts:=by
 cases ts with
 | nil=>rfl
 | cons t r=>exact if_neg (by rw [h];simp)
theorem Qt (b:Nat) (ts:List TokD) (en:Nat) (qs:List SP):FnP Tryz.prog 157 [ex (.pointer (some ⟨b,0,none⟩))] [Ug b ts en qs] (fun p loc=> ∃x r,numP ts= .ok (x,r)∧p=exI .i64 x∧loc=[Ug b r en qs]) (fun ch loc=> ∃e,numP ts= .error e∧Ua en e ch loc):=by
 have hin:=Rj b ts en qs
 have hfa:=Sd b ts en qs
 refine Ww Tryz.func157 rfl Tryz.ntmps157 rfl fun w0 F0 out=>?_
 cases hT:isNum ts
 · rw [hT] at hin
   (repeat' (first|(apply Xy 8;refine X6 (.one 0 rfl .nil) Tryz.func87 rfl hfa rfl ?_ ?_)|refine Xf ?_|refine Xb ?_|refine Xd ?_|(apply Xk;(first|exact Xe rfl|exact Xj rfl|exact Yaw);exact rfl)|refine Xx rfl ?_|(apply Xi;exact rfl;(apply Xn;(refine Xl (.one 0 rfl .nil) Tryz.func190 rfl hin rfl ?_;rintro _ _ ⟨rfl,rfl⟩)))))
   all_goals (try (exfalso;first|contradiction|omega))
   · rintro _ _ h;exact h.elim
   · rintro ch loc ⟨rfl,rfl⟩
     first|refine Xv (loc':=[]) (List.nil_sublist _) ?_|refine U1 (Xv (loc':=[]) (List.nil_sublist _) ?_)
     exact ⟨ts,Xo8 hT,rfl,rfl⟩
 · rw [hT] at hin
   cases ts with
   | nil=>cases hT
   | cons t r=>
     have hl:(t::r).length=r.length+1:=rfl
     (repeat' (first|refine Xf ?_|refine Xb ?_|refine Xd ?_|(apply Xk;exact Ydr;exact rfl)|refine Xs ?_|refine Xz ?_|refine X2 rfl ?_|(apply Xi;exact rfl;first|(apply Xn;(refine Xl (.one 0 rfl .nil) Tryz.func190 rfl hin rfl ?_;rintro _ _ ⟨rfl,rfl⟩))|(apply Xt;refine Xq (k:=0) (l0:=[]) rfl rfl rfl ?_))))
     all_goals (try (exfalso;first|contradiction|omega))
     exact ⟨.inr rfl,Vk rfl (.tmp rfl) (List.Sublist.refl _) ⟨_,_,Xha hT,rfl,rfl⟩⟩
theorem Us (b:Nat) (ts:List TokD) (en:Nat) (qs:List SP) (w:List UInt8):FnP Tryz.prog 158 [ex (.pointer (some ⟨b,0,none⟩)),exT w] [Ug b ts en qs] (fun p loc=> ∃x r,S8 w ts= .ok (x,r)∧p=exI .i64 x∧loc=[Ug b r en qs]) (fun ch loc=> ∃e,S8 w ts= .error e∧Ua en e ch loc):=by
 have hwa:=Vn b ts en qs w
 refine Ww Tryz.func158 rfl Tryz.ntmps158 rfl fun w0 F0 out=>?_
 (repeat' (first|(apply Xy 7;refine X6 (.one 0 rfl .nil) Tryz.func146 rfl hwa rfl ?_ ?_)|refine Xf ?_|refine Xb ?_|refine Xd ?_|(apply Xk;exact Ya0;exact rfl)))
 · rintro _ loc ⟨r,h1,rfl⟩
   have hba:=Qt b r en qs
   (repeat' (first|(apply Xy 9;refine X6 (.one 0 rfl .nil) Tryz.func157 rfl hba rfl ?_ ?_)|refine Xf ?_|refine Xb ?_|refine Xd ?_|(apply Xk;(exact Xe rfl);exact rfl)))
   · rintro _ loc ⟨x,r2,h2,rfl,rfl⟩
     (repeat' (first|refine Xd ?_|(apply Xk;(exact Xj rfl);exact rfl)|refine Xz ?_))
     exact ⟨.inr rfl,Vk rfl (.tmp rfl) (List.Sublist.refl _) ⟨_,_,(We h1).trans h2,rfl,rfl⟩⟩
   · rintro ch loc ⟨e,h2,rfl,rfl⟩
     first|refine Xv (loc':=[]) (List.nil_sublist _) ?_|refine U1 (Xv (loc':=[]) (List.nil_sublist _) ?_)
     exact ⟨e,(We h1).trans h2,rfl,rfl⟩
 · rintro ch loc ⟨e,h1,rfl,rfl⟩
   first|refine Xv (loc':=[]) (List.nil_sublist _) ?_|refine U1 (Xv (loc':=[]) (List.nil_sublist _) ?_)
   exact ⟨e,Xw h1,rfl,rfl⟩
theorem To (b:Nat) (ts:List TokD) (en:Nat) (qs:List SP) (w:List UInt8):FnP Tryz.prog 145 [ex (.pointer (some ⟨b,0,none⟩)),exT w] [Ug b ts en qs] (fun p loc=> ∃x r,Rl w ts= .ok (x,r)∧p=exT x∧loc=[Ug b r en qs]) (fun ch loc=> ∃e,Rl w ts= .error e∧Ua en e ch loc):=by
 have hwa:=Vn b ts en qs w
 refine Ww Tryz.func145 rfl Tryz.ntmps145 rfl fun w0 F0 out=>?_
 (repeat' (first|(apply Xy 8;refine X6 (.one 0 rfl .nil) Tryz.func146 rfl hwa rfl ?_ ?_)|refine Xf ?_|refine Xb ?_|refine Xd ?_|(apply Xk;exact Ya0;exact rfl)))
 · rintro _ loc ⟨r,h1,rfl⟩
   have hin:=Vw b r en qs
   have hfa:=Sd b r en qs
   cases hT:Sx.isName r
   · rw [hT] at hin
     (repeat' (first|(apply Xy 13;refine X6 (.one 0 rfl .nil) Tryz.func87 rfl hfa rfl ?_ ?_)|refine Xf ?_|refine Xb ?_|refine Xd ?_|(apply Xk;exact Ybt;exact rfl)|refine Xx rfl ?_|(apply Xi;exact rfl;(apply Xn;(refine Xl (.one 0 rfl .nil) Tryz.func183 rfl hin rfl ?_;rintro _ _ ⟨rfl,rfl⟩)))))
     all_goals (try (exfalso;first|contradiction|omega))
     · rintro _ _ h;exact h.elim
     · rintro ch loc ⟨rfl,rfl⟩
       first|refine Xv (loc':=[]) (List.nil_sublist _) ?_|refine U1 (Xv (loc':=[]) (List.nil_sublist _) ?_)
       exact ⟨r,(We h1).trans (Xpz hT),rfl,rfl⟩
   · rw [hT] at hin
     cases r with
     | nil=>cases hT
     | cons t r=>
       have hl:(t::r).length=r.length+1:=rfl
       (repeat' (first|refine Xf ?_|refine Xb ?_|refine Xd ?_|(apply Xk;exact Ydr;exact rfl)|refine Xs ?_|refine Xz ?_|refine X2 rfl ?_|(apply Xi;exact rfl;first|(apply Xn;(refine Xl (.one 0 rfl .nil) Tryz.func183 rfl hin rfl ?_;rintro _ _ ⟨rfl,rfl⟩))|(apply Xt;refine Xq (k:=0) (l0:=[]) rfl rfl rfl ?_))))
       all_goals (try (exfalso;first|contradiction|omega))
       exact ⟨.inr rfl,Vk rfl (.tmp rfl) (List.Sublist.refl _) ⟨_,_,(We h1).trans (Xiv hT),rfl,rfl⟩⟩
 · rintro ch loc ⟨e,h1,rfl,rfl⟩
   first|refine Xv (loc':=[]) (List.nil_sublist _) ?_|refine U1 (Xv (loc':=[]) (List.nil_sublist _) ?_)
   exact ⟨e,Xw h1,rfl,rfl⟩
end Go.Proofs.YthdldeenpgeemaaGreatDoor
namespace Go.Sx
open Go.Lx Go.Fr
def oneP:List (List UInt8)→Nat→List TokD→Res Nat
 | [],_,ts=> .error ts
 | w::ws,k,ts=>if isT w ts then .ok (k+1,ts.tail) else oneP ws (k+1) ts
theorem Xn4 {ws:List (List UInt8)} {ts:List TokD}: ∀{k:Nat} (h:k<ws.length),oneP (ws.drop k) k ts=if isT ws[k] ts then .ok (k+1,ts.tail) else oneP (ws.drop (k+1)) (k+1) ts:=fun h=>by
 rw [List.drop_eq_getElem_cons h,oneP]
theorem Xlc (ts:List TokD):howP ts=bnd (oneP [wSum,wMean,wMedian] 0) (fun i=>if i=2 then bnd (S8 wTrim) fun n=>ret (2,n) else ret ((i:Int),0)) ts:=by
 unfold howP bnd oneP oneP oneP oneP want
 cases h1:isT wSum ts
 · cases h2:isT wMean ts
   · cases h3:isT wMedian ts<;>rfl
   · rfl
 · rfl
theorem Xld (ts:List TokD):cutP ts=bnd (oneP [wOver,wUnder,wLots] 0) (fun i=>ret (i:Int)) ts:=by
 unfold cutP bnd oneP oneP oneP oneP want
 cases h1:isT wOver ts
 · cases h2:isT wUnder ts
   · cases h3:isT wLots ts<;>rfl
   · rfl
 · rfl
theorem Xp0 {ts:List TokD} (h1:isT wTotal ts=false) (h2:isT wScore ts=false) (h3:isT wRule ts=false):keyP ts=bnd (oneP [wHighest,wBonus,wLot] 0) (fun i=>ret ⟨[3,4,6].getD (i-1) 0,[],0⟩) ts:=by
 unfold keyP bnd oneP oneP oneP oneP want
 rw [h1,h2,h3]
 cases h1:isT wHighest ts
 · cases h2:isT wBonus ts
   · cases h3:isT wLot ts<;>rfl
   · rfl
 · rfl
theorem one_ok: ∀{ws:List (List UInt8)} {k:Nat} {ts:List TokD} {x:Nat} {r:List TokD},oneP ws k ts= .ok (x,r)→k<x∧x≤k+ws.length
 | [],_,_,_,_,h=>by cases h
 | w::ws,k,ts,x,r,h=>by
   rw [oneP] at h
   cases hb:isT w ts with
   | true=>rw [hb,if_pos rfl] at h;injection h with h;injection h with h1 _;subst h1;simp only [List.length_cons];omega
   | false=>rw [hb,if_neg Ybn] at h;have:=one_ok h;simp only [List.length_cons];omega
theorem Xhb (w:List UInt8) (ts:List TokD):Xqy w ts= .ok (isT w ts,if isT w ts then ts.tail else ts):=by
 unfold Xqy bnd want ret
 cases isT w ts<;>rfl
end Go.Sx
namespace Go.Proofs.YthdldeenpgeemaaGreatDoor
open Go Go.RowKit Go.Kx Go.Fr Go.Lx Go.Sx
theorem Qi (b:Nat) (ts:List TokD) (en:Nat) (qs:List SP) (ws:List (List UInt8)) (hws:ws.length<100):FnP Tryz.prog 185 [ex (.pointer (some ⟨b,0,none⟩)),isl eStr ws] [Ug b ts en qs] (fun p loc=> ∃x r,oneP ws 0 ts= .ok (x,r)∧p=exI .i64 (x:Int)∧loc=[Ug b r en qs]) (fun ch loc=> ∃e,oneP ws 0 ts= .error e∧Ua en e ch loc):=by
 have hfa:=Sd b ts en qs
 refine Ww Tryz.func185 rfl Tryz.ntmps185 rfl fun w0 F0 out=>?_
 (repeat' (first|refine Xf ?_|refine Xb ?_|refine Xd ?_|(apply Xk;exact Ybx;exact rfl)|refine Xp ?_))
 refine W1 (fun k:Nat=>([(0,ex (.pointer (some ⟨b,0,none⟩))),(7,isl eStr ws),(8,exI .i64 (ws.length:Int)),(9,exI .i64 (k:Int))],[Ug b ts en qs])) (fun k=>k≤ws.length∧oneP ws 0 ts=oneP (ws.drop k) k ts) (fun k=>ws.length-k) 0 ?_ ⟨Nat.zero_le _,rfl⟩ fun k hk=>?_
 · exact Xg (by repeat (first|exact Xm|refine Xh rfl ?_)) (List.Sublist.refl _)
 obtain ⟨hk,hinv⟩:=hk
 by_cases hlt:k<ws.length
 · have htk:=Wv b ts en qs ws[k]
   rw [Xn4 hlt] at hinv
   cases hT:isT ws[k] ts
   · rw [hT,if_neg Ybn] at htk hinv
     (repeat' (first|refine Xf ?_|refine Xb ?_|refine Xd ?_|(apply Xk;exact Ydm;exact rfl)|refine Xp ?_|refine Xs ?_|refine X2 rfl ?_|(apply Xi;exact rfl;(apply Xn;(refine Xl (.one 0 rfl .nil) Tryz.func155 rfl htk rfl ?_;rintro _ _ ⟨rfl,rfl⟩)))|(refine Xo rfl (fun hb=>?_) (fun hb=>?_)<;>(repeat (first|replace hb:=X0 hb|replace hb:=X1 hb))<;>(try (exfalso;omega)))))
     all_goals (try (exfalso;first|contradiction|omega))
     exact ⟨k+1,⟨by omega,hinv⟩,by omega,Xg (by repeat (first|exact Xm|refine Xh rfl ?_)) (List.Sublist.refl _)⟩
   · rw [hT,if_pos rfl] at htk hinv
     (repeat' (first|refine Xf ?_|refine Xb ?_|refine Xd ?_|(apply Xk;exact Ydm;exact rfl)|refine Xp ?_|refine Xs ?_|refine Xz ?_|refine Xx rfl ?_|(apply Xi;exact rfl;(apply Xn;(refine Xl (.one 0 rfl .nil) Tryz.func155 rfl htk rfl ?_;rintro _ _ ⟨rfl,rfl⟩)))|(refine Xo rfl (fun hb=>?_) (fun hb=>?_)<;>(repeat (first|replace hb:=X0 hb|replace hb:=X1 hb))<;>(try (exfalso;omega)))))
     all_goals (try (exfalso;first|contradiction|omega))
     exact ⟨.inr rfl,Vk rfl (.tmp rfl) (List.Sublist.refl _) ⟨k+1,_,hinv,rfl,rfl⟩⟩
 · rw [List.drop_eq_nil_of_le Yan] at hinv
   (repeat' (first|(apply Xy 21;refine X6 (.one 0 rfl .nil) Tryz.func87 rfl hfa rfl ?_ ?_)|refine Xf ?_|refine Xb ?_|refine Xd ?_|(apply Xk;(first|exact Xe rfl|exact Yak);exact rfl)|refine Wy ?_|(refine Xo rfl (fun hb=>?_) (fun hb=>?_)<;>(repeat (first|replace hb:=X0 hb|replace hb:=X1 hb))<;>(try (exfalso;omega)))))
   all_goals (try (exfalso;first|contradiction|omega))
   · rintro _ _ h;exact h.elim
   · rintro ch loc ⟨rfl,rfl⟩
     ((repeat (first|(with_reducible refine Wd ?_)|(with_reducible refine Wn ?_)));refine Xv (loc':=[]) (List.nil_sublist _) ?_)
     exact ⟨ts,hinv,rfl,rfl⟩
theorem Xj1 (b:Nat) (ts:List TokD) (en:Nat) (qs:List SP):FnP Tryz.prog 148 [ex (.pointer (some ⟨b,0,none⟩))] [Ug b ts en qs] (fun p loc=> ∃x r,critB ts= .ok (x,r)∧p=agg (critV x)∧loc=[Ug b r en qs]) (fun ch loc=> ∃e,critB ts= .error e∧Ua en e ch loc):=by
 refine Ww Tryz.func148 rfl Tryz.ntmps148 rfl fun w0 F0 out=>?_
 generalize hres:critB ts=res
 unfold critB at hres
 have kg1:=To b ts en qs wCriterion
 (repeat' (first|(apply Xy 4;refine X6 (.one 1 rfl .nil) Tryz.func145 rfl kg1 rfl ?_ ?_)|refine Xf ?_|refine Xb ?_|refine Xd ?_|(apply Xk;(exact Xe rfl);exact rfl)|(apply Xi;exact rfl;(apply Wh;refine X7 ?_;intro _))))
 rotate_left
 · rintro ch loc ⟨e,g1,rfl,rfl⟩;((repeat (first|(with_reducible refine Wd ?_)|(with_reducible refine Wn ?_)));refine Xv (loc':=[]) (List.nil_sublist _) ?_);exact ⟨e,hres.symm.trans (Xw g1),rfl,rfl⟩
 rintro _ loc ⟨nm,t1,g1,rfl,rfl⟩
 rw [We g1] at hres
 have kg2:=Us b t1 en qs wFrom
 (repeat' (first|(apply Xy 6;refine X6 (.one 0 rfl .nil) Tryz.func158 rfl kg2 rfl ?_ ?_)|(apply Xk;(exact Xe rfl);exact rfl)))
 rotate_left
 · rintro ch loc ⟨e,g2,rfl,rfl⟩;((repeat (first|(with_reducible refine Wd ?_)|(with_reducible refine Wn ?_)));refine Xv (loc':=[]) (List.nil_sublist _) ?_);exact ⟨e,hres.symm.trans (Xw g2),rfl,rfl⟩
 rintro _ loc ⟨lo,t2,g2,rfl,rfl⟩
 rw [We g2] at hres
 have kg3:=Us b t2 en qs wTo
 (repeat' (first|(apply Xy 8;refine X6 (.one 0 rfl .nil) Tryz.func158 rfl kg3 rfl ?_ ?_)|(apply Xk;(exact Xe rfl);exact rfl)))
 rotate_left
 · rintro ch loc ⟨e,g3,rfl,rfl⟩;((repeat (first|(with_reducible refine Wd ?_)|(with_reducible refine Wn ?_)));refine Xv (loc':=[]) (List.nil_sublist _) ?_);exact ⟨e,hres.symm.trans (Xw g3),rfl,rfl⟩
 rintro _ loc ⟨hi,t3,g3,rfl,rfl⟩
 rw [We g3] at hres
 have kg4:=Us b t3 en qs wStep
 (repeat' (first|(apply Xy 10;refine X6 (.one 0 rfl .nil) Tryz.func158 rfl kg4 rfl ?_ ?_)|(apply Xk;(exact Xe rfl);exact rfl)))
 rotate_left
 · rintro ch loc ⟨e,g4,rfl,rfl⟩;((repeat (first|(with_reducible refine Wd ?_)|(with_reducible refine Wn ?_)));refine Xv (loc':=[]) (List.nil_sublist _) ?_);exact ⟨e,hres.symm.trans (Xw g4),rfl,rfl⟩
 rintro _ loc ⟨st,t4,g4,rfl,rfl⟩
 rw [We g4] at hres
 have kg5:=Qi b t4 en qs [wSum,wMean,wMedian] Yar
 (repeat' (first|(apply Xy 17;refine Wj (k:=0) (E:=eStr) (t:=16) [wSum,wMean,wMedian] rfl rfl rfl rfl ?_ (hc:=by decide) (hby:=by decide);refine X6 (.one 0 rfl .nil) Tryz.func185 rfl kg5 rfl ?_ ?_)|refine Xf ?_|refine Xb ?_|refine Xd ?_|(apply Xk;exact Ydo;exact rfl)|(apply Xi;exact rfl;first|(apply Xt;refine Xq (k:=1) (l0:=[]) rfl rfl rfl ?_)|(apply X5;(refine Wq rfl Yac ?_);intro _))))
 rotate_left
 · rintro ch loc ⟨e,g5,rfl,rfl⟩;((repeat (first|(with_reducible refine Wd ?_)|(with_reducible refine Wn ?_)));refine Xv (loc':=[]) (List.nil_sublist _) ?_);exact ⟨e,hres.symm.trans (Xw ((Xlc t4).trans (Xw g5))),rfl,rfl⟩
 rintro _ loc ⟨i,t5,g5,rfl,rfl⟩
 have hi2:=one_ok g5
 have g6:=(Xlc t4).trans (We g5)
 by_cases hi3:i=2
 · rw [if_pos hi3] at g6
   subst hi3
   have kg7:=Us b t5 en qs wTrim
   (repeat' (first|(apply Xy 23;refine X6 (.one 0 rfl .nil) Tryz.func158 rfl kg7 rfl ?_ ?_)|refine Xf ?_|refine Xb ?_|refine Xd ?_|(apply Xk;(first|exact Xe rfl|exact Ya1|exact Yad|exact Ybc);exact rfl)|refine Xx rfl ?_|(apply Xi;exact rfl;(apply Xt;refine Xq (k:=1) (l0:=[]) rfl rfl rfl ?_))))
   all_goals (try (exfalso;first|contradiction|omega))
   rotate_left
   · rintro ch loc ⟨e,g7,rfl,rfl⟩;((repeat (first|(with_reducible refine Wd ?_)|(with_reducible refine Wn ?_)));refine Xv (loc':=[]) (List.nil_sublist _) ?_);exact ⟨e,hres.symm.trans (Xw (g6.trans (Xw g7))),rfl,rfl⟩
   rintro _ loc ⟨tr,t6,g7,rfl,rfl⟩
   rw [We (g6.trans (We g7)),We (Xhb _ _)] at hres
   have htk:=Wv b t6 en qs wReverse
   (repeat' (first|refine Xf ?_|refine Xb ?_|refine Xd ?_|(apply Xk;exact Yd2;exact rfl)|refine Xz ?_|(apply Xi;exact rfl;first|(apply Xn;(refine Xl (.one 0 rfl .nil) Tryz.func155 rfl htk rfl ?_;rintro _ _ ⟨rfl,rfl⟩))|(apply Xt;refine Xq (k:=1) (l0:=[]) rfl rfl rfl ?_))))
   exact ⟨.inr rfl,Vk rfl (.cella (k:=1) rfl rfl rfl rfl inferInstance rfl) Ya3 ⟨_,_,hres.symm,rfl,rfl⟩⟩
 · rw [if_neg hi3] at g6
   have hi4: ¬(i:Int)=2:=by omega
   rw [We g6,We (Xhb _ _)] at hres
   have htk:=Wv b t5 en qs wReverse
   (repeat' (first|refine Xf ?_|refine Xb ?_|refine Xd ?_|(apply Xk;(first|exact Xe rfl|(apply Vu;first|exact Vr (k:=1) rfl rfl rfl rfl|exact Vl (k:=1) rfl rfl rfl)|exact Yad|exact Ybc);exact rfl)|refine Xs ?_|refine Xz ?_|(apply Xi;exact rfl;first|(apply Xn;(refine Xl (.one 0 rfl .nil) Tryz.func155 rfl htk rfl ?_;rintro _ _ ⟨rfl,rfl⟩))|(apply Xt;refine Xq (k:=1) (l0:=[]) rfl rfl rfl ?_))|(refine Xo rfl (fun hb=>?_) (fun hb=>?_)<;>(repeat (first|replace hb:=X0 hb|replace hb:=X1 hb))<;>(try (exfalso;contradiction)))))
   all_goals (try (exfalso;first|contradiction|omega))
   exact ⟨.inr rfl,Vk rfl (.cella (k:=1) rfl rfl rfl rfl inferInstance rfl) Ya3 ⟨_,_,hres.symm,rfl,rfl⟩⟩
end Go.Proofs.YthdldeenpgeemaaGreatDoor
namespace Go.Fr
open Go.RowKit Go.Kx
abbrev wkV (p:List UInt8×Int):List SP:=[exT p.1,exI .i64 p.2]
instance {p:List UInt8×Int}:Scs (wkV p):=by unfold wkV;infer_instance
instance:LenS wkV 2:=⟨fun _=>rfl⟩
abbrev eWk:Enc (List UInt8×Int):=Xh0 wkV 2 24
end Go.Fr
namespace Go.Proofs.YthdldeenpgeemaaGreatDoor
open Go Go.RowKit Go.Kx Go.Fr Go.Lx Go.Sx
def Xap {α:Type} (en:Nat) (res:Res α) (ch:List PanicEntry) (_:List Ent):Prop:= ∃e,res= .error e∧ch=[{ v:= .iface 139 (.agg #[.int .i64 (Xgq en e)]),recovered:=false }]
theorem Xj2 (b:Nat) (ts:List TokD) (en:Nat) (qs:List SP) (w:List UInt8):FnP Tryz.prog 186 [fp [ex (.pointer (some ⟨b,0,none⟩))],fp [exT w]] [Ug b ts en qs] (fun p loc=> ∃x r,R5 w ts= .ok (x,r)∧p=agg (itemV x)∧loc=[Ug b r en qs]) (fun ch loc=> ∃e,R5 w ts= .error e∧Ua en e ch loc):=by
 refine Ww Tryz.func186 rfl Tryz.ntmps186 rfl fun w0 F0 out=>?_
 generalize hres:R5 w ts=res
 unfold R5 at hres
 have k1:=fun ts=>To b ts en qs w
 have k2:=fun ts=>Us b ts en qs wValue
 have k3:=fun ts=>Us b ts en qs wMost
 (repeat' (first|(apply W2 1;refine Stop.out ?_)|refine Xf ?_|refine Xb ?_|refine Xd ?_|(apply Xi;exact rfl;(apply Wh;refine X7 ?_;intro _))))
 refine ⟨?_⟩
 refine Q5 (K:=Xap en res) (fun ch env loc ⟨e,h1,h2⟩=>?_) ?_
 · ((repeat (first|(with_reducible refine Wd ?_)|(with_reducible refine Wn ?_)));refine Xv (loc':=[]) (List.nil_sublist _) ?_)
   exact ⟨e,h1,h2,rfl⟩
 (refine Ue [] 8 rfl ?_)
 all_goals ((apply Un 0 rfl Yaa rfl Yaa Vm Xa;(exact Yag);exact rfl))
 all_goals ((apply Un 1 rfl Yaa rfl Yaa Vm Xa;(exact Yag);exact rfl))
 all_goals ((apply Un 3 rfl Yaa rfl Yaa Vm Xa;(exact Yag);exact rfl))
 all_goals ((apply Un 5 rfl Yaa rfl Yaa Vm Xa;(exact Yag);exact rfl))
 all_goals ((apply T1 2;exact Yaa;exact rfl;exact Xa;exact (fun _ _ h=>h);(refine U3 (l0:=[]) (.one 1 rfl .nil) Tryz.func145 rfl (k1 ts) (List.nil_sublist _) rfl ?_ ?_;rotate_left;(rintro ch loc ⟨e,g1,rfl,rfl⟩;exact ⟨e,hres.symm.trans (Xw g1),rfl⟩);rintro _ loc ⟨nm,t1,g1,rfl,rfl⟩;rw [We g1] at hres)))
 all_goals ((apply T1 4;exact Yaa;exact rfl;exact Xa;exact (fun _ _ h=>h);(refine U3 (l0:=[]) (.one 0 rfl .nil) Tryz.func158 rfl (k2 _) (List.nil_sublist _) rfl ?_ ?_;rotate_left;(rintro ch loc ⟨e,g2,rfl,rfl⟩;exact ⟨e,hres.symm.trans (Xw g2),rfl⟩);rintro _ loc ⟨vl,t2,g2,rfl,rfl⟩;rw [We g2] at hres)))
 all_goals ((apply T1 6;exact Yaa;exact rfl;exact Xa;exact (fun _ _ h=>h);(refine U3 (l0:=[]) (.one 0 rfl .nil) Tryz.func158 rfl (k3 _) (List.nil_sublist _) rfl ?_ ?_;rotate_left;(rintro ch loc ⟨e,g3,rfl,rfl⟩;exact ⟨e,hres.symm.trans (Xw g3),rfl⟩);rintro _ loc ⟨ms,t3,g3,rfl,rfl⟩;rw [We g3] at hres)))
 all_goals ((apply Wz 7 rfl Yaa rfl Vm Xa;(exact Ya7);exact rfl))
 all_goals ((apply Xr 8;exact Yaa;exact rfl;exact Xa;exact (fun h=>absurd h Yar);(apply Xt;refine Xq (k:=1) (l0:=[]) rfl rfl rfl ?_)))
 all_goals (refine X3 Yaa ?_)
 all_goals ((repeat' (refine Xz ?_)))
 all_goals (try (exfalso;first|contradiction|omega))
 exact ⟨.inr rfl,Vk rfl (.cella (k:=1) rfl rfl rfl rfl inferInstance rfl) Ya3 ⟨_,_,hres.symm,rfl,rfl⟩⟩
def keyW:List (List UInt8×Int):=[(wTotal,1),(wScore,2),(wRule,5)]
theorem Xp1 {ts:List TokD}: ∀{k:Nat} (h:k<keyW.length),(∀j,(h:j<keyW.length)→j<k→isT keyW[j].1 ts=false)→isT keyW[k].1 ts=true→keyP ts=bnd (Rl keyW[k].1) (fun nm=>ret ⟨keyW[k].2,nm,0⟩) ts
 | 0,_,_,h=>if_pos h
 | 1,_,hp,h=>by
   have h0:isT wTotal ts=false:=hp 0 Yar Yar
   have h:isT wScore ts=true:=h
   unfold keyP;rw [h0,h];rfl
 | 2,_,hp,h=>by
   have h0:isT wTotal ts=false:=hp 0 Yar Yar
   have h1:isT wScore ts=false:=hp 1 Yar Yar
   have h:isT wRule ts=true:=h
   unfold keyP;rw [h0,h1,h];rfl
 | k+3,h,_,_=>absurd h (by show ¬k+3<3;omega)
theorem Xq0 {ts:List TokD} (hp: ∀j,(h:j<keyW.length)→j<3→isT keyW[j].1 ts=false):keyP ts=bnd (oneP [wHighest,wBonus,wLot] 0) (fun i=>ret ⟨[3,4,6].getD (i-1) 0,[],0⟩) ts:=Xp0 (hp 0 Yar Yar) (hp 1 Yar Yar) (hp 2 Yar Yar)
theorem Xle (b:Nat) (ts:List TokD) (en:Nat) (qs:List SP):FnP Tryz.prog 188 [ex (.pointer (some ⟨b,0,none⟩))] [Ug b ts en qs] (fun p loc=> ∃x r,keyP ts= .ok (x,r)∧p=agg (keyV x)∧loc=[Ug b r en qs]) (fun ch loc=> ∃e,keyP ts= .error e∧Ua en e ch loc):=by
 refine Ww Tryz.func188 rfl Tryz.ntmps188 rfl fun w0 F0 out=>?_
 generalize hres:keyP ts=res
 (repeat' (first|(apply Xy 9;refine Wj (k:=0) (E:=eWk) (t:=8) keyW rfl rfl rfl rfl ?_ (hc:=by decide) (hby:=by decide))|refine Xf ?_|refine Xb ?_|refine Xd ?_|(apply Xk;(first|exact Xe rfl|exact Yaq|exact Ya7);exact rfl)|refine Xp ?_|(apply Xi;exact rfl;first|(apply Wh;refine X7 ?_;intro _)|(apply X5;(refine Wq rfl Yac ?_);intro _))))
 rename_i b2 b8
 have hl3:keyW.length=3:=rfl
 refine W1 (fun k:Nat=>([(0,ex (.pointer (some ⟨b,0,none⟩))),(2,ex (.pointer (some ⟨b2,0,none⟩))),(8,isl eWk keyW),(9,exI .i64 (keyW.length:Int)),(10,exI .i64 (k:Int))],[Ug b ts en qs,row b2 97 3 [exI .i64 0,exT [],exI .i64 0]])) (fun k=>k≤keyW.length∧ ∀j,(h:j<keyW.length)→j<k→isT keyW[j].1 ts=false) (fun k=>keyW.length-k) 0 ?_ ⟨Nat.zero_le _,fun j _ h=>absurd h Yan⟩ fun k hk=>?_
 · refine Leads.trans (Vj (.swap _ _ _)) ?_
   exact Xg (by repeat (first|exact Xm|refine Xh rfl ?_)) (List.Sublist.refl _)
 obtain ⟨hk,hpre⟩:=hk
 by_cases hlt:k<keyW.length
 · have his:=W4 b ts en qs keyW[k].1
   cases hT:isT keyW[k].1 ts
   · rw [hT] at his
     have hok: ∀j,(h:j<keyW.length)→j<k+1→isT keyW[j].1 ts=false:=fun j h h2=>by
       by_cases e:j=k
       · subst e;exact hT
       · exact hpre j h Yan
     clear hpre
     (repeat' (first|refine Xf ?_|refine Xb ?_|refine Xd ?_|(apply Xk;(first|exact Xe rfl|(apply Vu;first|exact Vr (k:=0) rfl rfl rfl rfl|exact Rq rfl rfl)|exact Yad|exact Ybe|exact Yae);exact rfl)|refine Xp ?_|refine Xs ?_|refine X2 rfl ?_|(apply Xi;exact rfl;first|(apply Xn;(refine Xl (.one 1 rfl .nil) Tryz.func184 rfl his rfl ?_;rintro _ _ ⟨rfl,rfl⟩))|(apply Wh;refine X7 ?_;intro _)|(apply Xt;refine Xq (k:=0) (l0:=[]) rfl rfl rfl ?_))|(refine Xo rfl (fun hb=>?_) (fun hb=>?_)<;>(repeat (first|replace hb:=X0 hb|replace hb:=X1 hb))<;>(try (exfalso;omega)))))
     all_goals (try (exfalso;first|contradiction|omega))
     exact ⟨k+1,⟨by omega,hok⟩,by omega,Xg (by repeat (first|exact Xm|refine Xh rfl ?_)) Yc8⟩
   · rw [hT] at his
     rw [Xp1 hlt hpre hT] at hres
     clear hpre
     have k1:=To b ts en qs keyW[k].1
     (repeat' (first|(apply W2 5;refine Stop.out ?_)|refine Xf ?_|refine Xb ?_|refine Xd ?_|(apply Xk;(first|exact Xe rfl|(apply Vu;first|exact Vr (k:=0) rfl rfl rfl rfl|exact Rq rfl rfl)|exact Yad|exact Yak|exact Yae);exact rfl)|refine Xp ?_|refine Xs ?_|refine Xx rfl ?_|(apply Xi;exact rfl;first|(apply Xn;(refine Xl (.one 1 rfl .nil) Tryz.func184 rfl his rfl ?_;rintro _ _ ⟨rfl,rfl⟩))|(apply Wh;refine X7 ?_;intro _)|(apply Xt;refine Xq (k:=0) (l0:=[]) rfl rfl rfl ?_))|(refine Xo rfl (fun hb=>?_) (fun hb=>?_)<;>(repeat (first|replace hb:=X0 hb|replace hb:=X1 hb))<;>(try (exfalso;omega)))))
     all_goals (try (exfalso;first|contradiction|omega))
     rename_i b4
     refine ⟨?_⟩
     refine Q5 (K:=Xap en res) (fun ch env loc ⟨e,h1,h2⟩=>?_) ?_
     · ((repeat (first|(with_reducible refine Wd ?_)|(with_reducible refine Wn ?_)));refine Xv (loc':=[]) (List.nil_sublist _) ?_)
       exact ⟨e,h1,h2,rfl⟩
     generalize keyW[k]=kw at k1 hres
     refine Wf (env':=[(0,ex (.pointer (some ⟨b,0,none⟩))),(2,ex (.pointer (some ⟨b2,0,none⟩))),(4,ex (.pointer (some ⟨b4,0,none⟩)))]) (loc':=[Ug b ts en qs,row b4 264 2 [exT kw.1,exI .i64 kw.2],row b2 97 3 [exI .i64 0,exT [],exI .i64 0]]) (Xg (by repeat (first|exact Xm|refine Xh rfl ?_)) (by exact .refl _)) ?_
     (refine Ue ([row b4 264 2 [exT kw.1,exI .i64 kw.2]]) 8 rfl ?_)
     all_goals ((apply Wz 0 rfl Yaa rfl Vm Xa;(exact Yad);exact rfl))
     all_goals ((apply Un 1 rfl Yaa rfl Yaa Vm Xa;(exact Ya1);exact rfl))
     all_goals ((apply Wz 2 rfl Yaa rfl Vm Xa;(exact Xe rfl);exact rfl))
     all_goals ((apply Wz 3 rfl Yaa rfl Vm Xa;(exact Yad);exact rfl))
     all_goals ((apply Un 4 rfl Yaa rfl Yaa Vm Xa;(exact Ya1);exact rfl))
     all_goals ((apply T1 5;exact Yaa;exact rfl;exact Xa;exact (fun _ _ h=>h);(refine U3 (.one 0 rfl .nil) Tryz.func145 rfl k1 Ya3 rfl ?_ ?_;rotate_left;(rintro ch loc ⟨e,g1,rfl,rfl⟩;exact ⟨e,hres.symm.trans (Xw g1),rfl⟩);rintro _ loc ⟨nm,t1,g1,rfl,rfl⟩;rw [We g1] at hres)))
     all_goals ((apply Wz 6 rfl Yaa rfl Vm Xa;(exact Ya7);exact rfl))
     all_goals ((apply Xr 7;exact Yaa;exact rfl;exact Xa;exact (fun _ _ h=>h);(apply Xt;refine Xq (k:=2) (hH:=Ybs) rfl rfl rfl ?_)))
     all_goals (refine X3 Yaa ?_)
     all_goals ((repeat' (refine Xz ?_)))
     exact ⟨.inr rfl,Vk rfl (.cella (k:=2) rfl rfl rfl rfl inferInstance rfl) Ya3 ⟨_,_,hres.symm,rfl,rfl⟩⟩
 · have hk3:k=3:=by omega
   subst hk3
   have hk2:=Xq0 (ts:=ts) fun j h h2=>hpre j h h2
   clear hpre
   rw [hk2] at hres
   have k1:=Qi b ts en qs [wHighest,wBonus,wLot] Yar
   (repeat' (first|(apply Xy 29;refine Wj (k:=0) (E:=eStr) (t:=28) [wHighest,wBonus,wLot] rfl rfl rfl rfl ?_ (hc:=by decide) (hby:=by decide);refine Wj (k:=0) (E:=eI) (t:=26) [3,4,6] rfl rfl rfl rfl ?_ (hc:=by decide) (hby:=by decide);refine X6 (.one 0 rfl .nil) Tryz.func185 rfl k1 rfl ?_ ?_)|refine Xf ?_|refine Xb ?_|refine Xd ?_|(apply Xk;(first|exact Xe rfl|exact Yak);exact rfl)|refine Wy ?_|refine X2 rfl ?_|(apply Xi;exact rfl;(apply X5;(refine Wq rfl Yac ?_);intro _))))
   rotate_left
   · rintro ch loc ⟨e,g1,rfl,rfl⟩;((repeat (first|(with_reducible refine Wd ?_)|(with_reducible refine Wn ?_)));refine Xv (loc':=[]) (List.nil_sublist _) ?_);exact ⟨e,hres.symm.trans (Xw g1),rfl,rfl⟩
   rintro _ loc ⟨i,t1,g1,rfl,rfl⟩
   have hi:=one_ok g1
   have hi3:[wHighest,wBonus,wLot].length=3:=rfl
   obtain ⟨j,rfl⟩: ∃j,i=j+1:=⟨i-1,by omega⟩
   rw [We g1] at hres
   have hj:((j+1:Nat):Int)-1=(j:Int):=by omega
   have hj3:j<3:=by omega
   rcases (show j=0∨j=1∨j=2 by omega) with rfl|rfl|rfl
   all_goals ((repeat' (first|refine Xd ?_|(apply Xk;(first|exact Yag|(apply V1;exact Xnp rfl rfl)|(apply Xby;exact Xgy rfl rfl rfl)|exact Ya7);exact rfl)|refine Xz ?_|(apply Xi;exact rfl;(apply Xt;refine Xq (k:=1) (l0:=[]) rfl rfl rfl ?_)))))
   all_goals exact ⟨.inr rfl,Vk rfl (.cella (k:=1) rfl rfl rfl rfl inferInstance rfl) Ya3 ⟨_,_,hres.symm,rfl,rfl⟩⟩
end Go.Proofs.YthdldeenpgeemaaGreatDoor
namespace Go.Proofs.YthdldeenpgeemaaGreatDoor
open Go Go.RowKit Go.Kx Go.Fr Go.Lx Go.Sx
theorem Xaq (b:Nat) (ts:List TokD) (en:Nat) (qs:List SP) (hts:ts.length≤70000):FnP Tryz.prog 156 [ex (.pointer (some ⟨b,0,none⟩)),Xdv (.func 157) [ex (.pointer (some ⟨b,0,none⟩))] []] [Ug b ts en qs] (fun p loc=> ∃x r,Xak numP ts= .ok (x,r)∧p=isl eI x∧loc=[Ug b r en qs]) (fun ch loc=> ∃e,Xak numP ts= .error e∧Ua en e ch loc):=by
 have k0:=fun ts=>Qt b ts en qs
 have hlw:Lw TT numP:=Xeb fun _ _=>trivial
 refine Ww Tryz.func156 rfl Tryz.ntmps156 rfl fun w0 F0 out=>?_
 generalize hres:Xak numP ts=res
 unfold Xak at hres
 have k1:=k0 ts
 (repeat' (first|(apply Xy 7;refine U9 (args:=[]) rfl (.one 0 rfl .nil) Tryz.func157 rfl k1 rfl ?_ ?_)|refine Xf ?_|refine Xb ?_|refine Xd ?_|(apply Xk;exact Ya0;exact rfl)))
 rotate_left
 · rintro ch loc ⟨e,g1,rfl,rfl⟩;((repeat (first|(with_reducible refine Wd ?_)|(with_reducible refine Wn ?_)));refine Xv (loc':=[]) (List.nil_sublist _) ?_);exact ⟨e,hres.symm.trans (Xw g1),rfl,rfl⟩
 rintro _ loc ⟨x0,t0,g1,rfl,rfl⟩
 have hl0:=hlw.len g1
 rw [We g1] at hres
 (repeat' (first|refine Xf ?_|refine Xd ?_|(apply Xk;(exact Xj rfl);exact rfl)|refine Xp ?_|(apply Xi;exact rfl;(apply X5;(refine Wb rfl rfl ?_);intro _))))
 rename_i b8
 refine W1 (fun x:Value×List _×List TokD=>([(0,ex (.pointer (some ⟨b,0,none⟩))),(1,Xdv (.func 157) [ex (.pointer (some ⟨b,0,none⟩))] []),(5,ex x.1)],[Ug b x.2.2 en qs,vec x.1 3 1 x.2.1.length (x.2.1.flatMap intV)])) (fun x=>Xcl (isT sComma) (S9 numP) x.2.1 x.2.2=res∧x.2.1.length+x.2.2.length≤ts.length+1) (fun x=>x.2.2.length) (.slice (some ⟨b8,0,none⟩) 1 1,[x0],t0) ?_ ⟨hres,by show 1+t0.length≤_;omega⟩ fun x hx=>?_
 · refine Vi (k:=0) (sz:=1) (n:=1) (c:=1) rfl rfl rfl Yar Yar ?_
   refine Leads.trans (Vj (.swap _ _ _)) ?_
   exact Xg (by repeat (first|exact Xm|refine Xh rfl ?_)) (List.Sublist.refl _)
 obtain ⟨v,acc,t⟩:=x
 obtain ⟨hinv,hacc⟩:=hx
 simp only at hinv hacc ⊢
 clear hres
 rw [Sr rfl (Xbt hlw)] at hinv
 have htk:=Wv b t en qs sComma
 cases hT:isT sComma t
 · rw [hT,if_neg Ybn] at htk hinv
   (repeat' (first|(apply Xy 16;refine Qw (k:=1) (t:=5) (E:=eI) acc rfl rfl rfl rfl ?_ (hby:=by show _ * 8≤_;omega))|refine Xf ?_|refine Xb ?_|refine Xd ?_|(apply Xk;exact Ya0;exact rfl)|refine Xz ?_|refine Wy ?_|refine X2 rfl ?_|(apply Xi;exact rfl;(apply Xn;(refine Xl (.one 0 rfl .nil) Tryz.func155 rfl htk rfl ?_;rintro _ _ ⟨rfl,rfl⟩)))))
   all_goals (try (exfalso;first|contradiction|omega))
   exact ⟨.inr rfl,Vk rfl (.tmp rfl) (List.Sublist.refl _) ⟨_,_,hinv.symm,rfl,rfl⟩⟩
 · rw [hT,if_pos rfl] at htk hinv
   obtain ⟨t1,t2,rfl,-,-⟩:=R6 hT
   have hw:S9 numP acc (t1::t2)=bnd numP (fun y=>ret (acc++[y])) t2:=We (Tn hT)
   have k2:=k0 t2
   (repeat' (first|(apply Xy 13;refine U9 (args:=[]) rfl (.one 0 rfl .nil) Tryz.func157 rfl k2 rfl ?_ ?_)|refine Xf ?_|refine Xb ?_|refine Xd ?_|(apply Xk;(exact Xe rfl);exact rfl)|refine Xp ?_|refine Xs ?_|refine Xx rfl ?_|(apply Xi;exact rfl;(apply Xn;(refine Xl (.one 0 rfl .nil) Tryz.func155 rfl htk rfl ?_;rintro _ _ ⟨rfl,rfl⟩)))))
   all_goals (try (exfalso;first|contradiction|omega))
   rotate_left
   · rintro ch loc ⟨e,g1,rfl,rfl⟩;((repeat (first|(with_reducible refine Wd ?_)|(with_reducible refine Wn ?_)));refine Xv (loc':=[]) (List.nil_sublist _) ?_);exact ⟨e,hinv.symm.trans (Xw (hw.trans (Xw g1))),rfl,rfl⟩
   rintro _ loc ⟨y,t3,g2,rfl,rfl⟩
   have hl2:=hlw.len g2
   simp only [List.length_cons] at hacc
   rw [We (hw.trans (We g2))] at hinv
   (repeat' (first|refine Xd ?_|(apply Xk;(exact Xj rfl);exact rfl)|(apply Xi;exact rfl;first|(apply V4;((refine V5 (k:=2) (l0:=[]) rfl rfl Yb4 rfl ?_));intro _)|(apply X5;(refine Wb rfl rfl ?_);intro _))))
   rename_i b14 v2
   refine ⟨(v2,acc++[y],t3),⟨hinv,by simp only [List.length_append,List.length_cons,List.length_nil];omega⟩,by show t3.length<(t1::t2).length;simp only [List.length_cons];omega,?_⟩
   simp only [List.length_append,List.flatMap_append,List.length_cons,List.length_nil,List.flatMap_cons,List.flatMap_nil,List.append_nil]
   exact Xg (by repeat (first|exact Xm|refine Xh rfl ?_)) (by first|exact .cons _ (.refl _)|exact (List.Sublist.refl _))
theorem Xem (b:Nat) (ts:List TokD) (en:Nat) (qs:List SP) (hts:ts.length≤70000):FnP Tryz.prog 187 [ex (.pointer (some ⟨b,0,none⟩)),Xdv (.func 188) [ex (.pointer (some ⟨b,0,none⟩))] []] [Ug b ts en qs] (fun p loc=> ∃x r,Xak keyP ts= .ok (x,r)∧p=isl eKey x∧loc=[Ug b r en qs]) (fun ch loc=> ∃e,Xak keyP ts= .error e∧Ua en e ch loc):=by
 have k0:=fun ts=>Xle b ts en qs
 have hlw:Lw TT keyP:=Xmv (fun _ _ _=>trivial) fun w _=>Ra w
 refine Ww Tryz.func187 rfl Tryz.ntmps187 rfl fun w0 F0 out=>?_
 generalize hres:Xak keyP ts=res
 unfold Xak at hres
 have k1:=k0 ts
 (repeat' (first|(apply Xy 7;refine U9 (args:=[]) rfl (.one 0 rfl .nil) Tryz.func188 rfl k1 rfl ?_ ?_)|refine Xf ?_|refine Xb ?_|refine Xd ?_|(apply Xk;exact Ya0;exact rfl)))
 rotate_left
 · rintro ch loc ⟨e,g1,rfl,rfl⟩;((repeat (first|(with_reducible refine Wd ?_)|(with_reducible refine Wn ?_)));refine Xv (loc':=[]) (List.nil_sublist _) ?_);exact ⟨e,hres.symm.trans (Xw g1),rfl,rfl⟩
 rintro _ loc ⟨x0,t0,g1,rfl,rfl⟩
 have hl0:=hlw.len g1
 rw [We g1] at hres
 (repeat' (first|refine Xf ?_|refine Xd ?_|(apply Xk;(exact Xj rfl);exact rfl)|refine Xp ?_|(apply Xi;exact rfl;(apply X5;(refine Wb rfl rfl ?_);intro _))))
 rename_i b8
 refine W1 (fun x:Value×List _×List TokD=>([(0,ex (.pointer (some ⟨b,0,none⟩))),(1,Xdv (.func 188) [ex (.pointer (some ⟨b,0,none⟩))] []),(5,ex x.1)],[Ug b x.2.2 en qs,vec x.1 97 3 x.2.1.length (x.2.1.flatMap keyV)])) (fun x=>Xcl (isT sComma) (S9 keyP) x.2.1 x.2.2=res∧x.2.1.length+x.2.2.length≤ts.length+1) (fun x=>x.2.2.length) (.slice (some ⟨b8,0,none⟩) 1 1,[x0],t0) ?_ ⟨hres,by show 1+t0.length≤_;omega⟩ fun x hx=>?_
 · refine Vi (k:=0) (sz:=3) (n:=1) (c:=1) rfl rfl rfl Yar Yar ?_
   refine Leads.trans (Vj (.swap _ _ _)) ?_
   exact Xg (by repeat (first|exact Xm|refine Xh rfl ?_)) (List.Sublist.refl _)
 obtain ⟨v,acc,t⟩:=x
 obtain ⟨hinv,hacc⟩:=hx
 simp only at hinv hacc ⊢
 clear hres
 rw [Sr rfl (Xbt hlw)] at hinv
 have htk:=Wv b t en qs sComma
 cases hT:isT sComma t
 · rw [hT,if_neg Ybn] at htk hinv
   (repeat' (first|(apply Xy 16;refine Qw (k:=1) (t:=5) (E:=eKey) acc rfl rfl rfl rfl ?_ (hby:=by show _ * 32≤_;omega))|refine Xf ?_|refine Xb ?_|refine Xd ?_|(apply Xk;exact Ya0;exact rfl)|refine Xz ?_|refine Wy ?_|refine X2 rfl ?_|(apply Xi;exact rfl;(apply Xn;(refine Xl (.one 0 rfl .nil) Tryz.func155 rfl htk rfl ?_;rintro _ _ ⟨rfl,rfl⟩)))))
   all_goals (try (exfalso;first|contradiction|omega))
   exact ⟨.inr rfl,Vk rfl (.tmp rfl) (List.Sublist.refl _) ⟨_,_,hinv.symm,rfl,rfl⟩⟩
 · rw [hT,if_pos rfl] at htk hinv
   obtain ⟨t1,t2,rfl,-,-⟩:=R6 hT
   have hw:S9 keyP acc (t1::t2)=bnd keyP (fun y=>ret (acc++[y])) t2:=We (Tn hT)
   have k2:=k0 t2
   (repeat' (first|(apply Xy 13;refine U9 (args:=[]) rfl (.one 0 rfl .nil) Tryz.func188 rfl k2 rfl ?_ ?_)|refine Xf ?_|refine Xb ?_|refine Xd ?_|(apply Xk;(exact Xe rfl);exact rfl)|refine Xp ?_|refine Xs ?_|refine Xx rfl ?_|(apply Xi;exact rfl;(apply Xn;(refine Xl (.one 0 rfl .nil) Tryz.func155 rfl htk rfl ?_;rintro _ _ ⟨rfl,rfl⟩)))))
   all_goals (try (exfalso;first|contradiction|omega))
   rotate_left
   · rintro ch loc ⟨e,g1,rfl,rfl⟩;((repeat (first|(with_reducible refine Wd ?_)|(with_reducible refine Wn ?_)));refine Xv (loc':=[]) (List.nil_sublist _) ?_);exact ⟨e,hinv.symm.trans (Xw (hw.trans (Xw g1))),rfl,rfl⟩
   rintro _ loc ⟨y,t3,g2,rfl,rfl⟩
   have hl2:=hlw.len g2
   simp only [List.length_cons] at hacc
   rw [We (hw.trans (We g2))] at hinv
   (repeat' (first|refine Xd ?_|(apply Xk;(exact Xj rfl);exact rfl)|(apply Xi;exact rfl;first|(apply V4;((refine V5 (k:=2) (l0:=[]) rfl rfl Yb4 rfl ?_));intro _)|(apply X5;(refine Wb rfl rfl ?_);intro _))))
   rename_i b14 v2
   refine ⟨(v2,acc++[y],t3),⟨hinv,by simp only [List.length_append,List.length_cons,List.length_nil];omega⟩,by show t3.length<(t1::t2).length;simp only [List.length_cons];omega,?_⟩
   simp only [List.length_append,List.flatMap_append,List.length_cons,List.length_nil,List.flatMap_cons,List.flatMap_nil,List.append_nil]
   exact Xg (by repeat (first|exact Xm|refine Xh rfl ?_)) (by first|exact .cons _ (.refl _)|exact (List.Sublist.refl _))
theorem Xlf (b:Nat) (ts:List TokD) (en:Nat) (qs:List SP) (hts:ts.length≤70000):FnP Tryz.prog 152 [ex (.pointer (some ⟨b,0,none⟩))] [Ug b ts en qs] (fun p loc=> ∃x r,tieB ts= .ok (x,r)∧p=agg (tieV x)∧loc=[Ug b r en qs]) (fun ch loc=> ∃e,tieB ts= .error e∧Ua en e ch loc):=by
 refine Ww Tryz.func152 rfl Tryz.ntmps152 rfl fun w0 F0 out=>?_
 generalize hres:tieB ts=res
 unfold tieB at hres
 have k1:=To b ts en qs wTie
 (repeat' (first|(apply Xy 4;refine X6 (.one 1 rfl .nil) Tryz.func145 rfl k1 rfl ?_ ?_)|refine Xf ?_|refine Xb ?_|refine Xd ?_|(apply Xk;(exact Xe rfl);exact rfl)|(apply Xi;exact rfl;(apply Wh;refine X7 ?_;intro _))))
 rotate_left
 · rintro ch loc ⟨e,g1,rfl,rfl⟩;((repeat (first|(with_reducible refine Wd ?_)|(with_reducible refine Wn ?_)));refine Xv (loc':=[]) (List.nil_sublist _) ?_);exact ⟨e,hres.symm.trans (Xw g1),rfl,rfl⟩
 rintro _ loc ⟨nm,t1,g1,rfl,rfl⟩
 rw [We g1] at hres
 have hl1:=(Tv (Q:=TT) (Ra wTie) fun _ _ _=>trivial).len g1
 have k2:=Xem b t1 en qs Yan
 (repeat' (first|(apply Xy 8;apply Xk;exact Tg (ps:=[ex (.pointer (some ⟨b,0,none⟩))]) (qs:=[]) rfl rfl;exact rfl)|(apply Xy 9;refine X6 (.one 0 rfl .nil) Tryz.func187 rfl k2 rfl ?_ ?_)|refine Xf ?_|refine Xb ?_|refine Xd ?_|(apply Xk;exact Ydo;exact rfl)|(apply Xi;exact rfl;(apply Xt;refine Xq (k:=1) (l0:=[]) rfl rfl rfl ?_))))
 rotate_left
 · rintro ch loc ⟨e,g2,rfl,rfl⟩;((repeat (first|(with_reducible refine Wd ?_)|(with_reducible refine Wn ?_)));refine Xv (loc':=[]) (List.nil_sublist _) ?_);exact ⟨e,hres.symm.trans (Xw g2),rfl,rfl⟩
 rintro _ loc ⟨ks,t2,g2,rfl,rfl⟩
 rw [We g2] at hres
 (repeat' (first|refine Xf ?_|refine Xb ?_|refine Xd ?_|(apply Xk;(first|exact Ybg|exact Yad);exact rfl)|refine Xz ?_|(apply Xi;exact rfl;(apply Xt;refine Xq (k:=1) (l0:=[]) rfl rfl rfl ?_))))
 exact ⟨.inr rfl,Vk rfl (.cella (k:=1) rfl rfl rfl rfl inferInstance rfl) Ya3 ⟨_,_,hres.symm,rfl,rfl⟩⟩
theorem Xdm (b:Nat) (ts:List TokD) (en:Nat) (qs:List SP) (w:List UInt8) (hts:ts.length≤70000):FnP Tryz.prog 147 [ex (.pointer (some ⟨b,0,none⟩)),exT w,Xdv (.func 148) [ex (.pointer (some ⟨b,0,none⟩))] []] [Ug b ts en qs] (fun p loc=> ∃x r,Sa w critB ts= .ok (x,r)∧p=isl eCrit x∧loc=[Ug b r en qs]) (fun ch loc=> ∃e,Sa w critB ts= .error e∧Ua en e ch loc):=by
 have k0:=fun (ts:List TokD) (hts:ts.length≤70000)=>Xj1 b ts en qs
 have hlw:Lw TT critB:=Xh7 (fun _ _ _=>trivial) (fun _ _=>trivial) fun w _=>Ra w
 have hls:Less critB:=less_crit
 refine Ww Tryz.func147 rfl Tryz.ntmps147 rfl fun w0 F0 out=>?_
 generalize hres:Sa w critB ts=res
 unfold Sa at hres
 (repeat' (first|refine Xf ?_|refine Xb ?_|refine Xd ?_|(apply Xk;(exact Xj rfl);exact rfl)|refine Xp ?_))
 refine W1 (fun x:Value×List _×List TokD=>([(0,ex (.pointer (some ⟨b,0,none⟩))),(1,exT w),(2,Xdv (.func 148) [ex (.pointer (some ⟨b,0,none⟩))] []),(6,ex x.1)],[Ug b x.2.2 en qs,vec x.1 70 7 x.2.1.length (x.2.1.flatMap critV)])) (fun x=>Xcl (isT w) (Uv critB) x.2.1 x.2.2=res∧x.2.1.length+x.2.2.length≤ts.length) (fun x=>x.2.2.length) (.slice none 0 0,[],ts) ?_ ⟨hres,by show 0+ts.length≤_;omega⟩ fun x hx=>?_
 · refine Tc 70 7 ?_
   refine Leads.trans (Vj (.swap _ _ _)) ?_
   exact Xg (by repeat (first|exact Xm|refine Xh rfl ?_)) (List.Sublist.refl _)
 obtain ⟨v,acc,t⟩:=x
 obtain ⟨hinv,hacc⟩:=hx
 simp only at hinv hacc ⊢
 clear hres
 rw [Sr rfl (T5 hls)] at hinv
 have his:=W4 b t en qs w
 cases hT:isT w t
 · rw [hT] at his hinv
   rw [if_neg Ybn] at hinv
   (repeat' (first|(apply Xy 17;refine Qw (k:=1) (t:=6) (E:=eCrit) acc rfl rfl rfl rfl ?_ (hby:=by show _ * 64≤_;omega))|refine Xf ?_|refine Xb ?_|refine Xd ?_|(apply Xk;exact Ya0;exact rfl)|refine Xz ?_|refine Wy ?_|refine X2 rfl ?_|(apply Xi;exact rfl;(apply Xn;(refine Xl (.one 0 rfl .nil) Tryz.func184 rfl his rfl ?_;rintro _ _ ⟨rfl,rfl⟩)))))
   all_goals (try (exfalso;first|contradiction|omega))
   exact ⟨.inr rfl,Vk rfl (.tmp rfl) (List.Sublist.refl _) ⟨_,_,hinv.symm,rfl,rfl⟩⟩
 · rw [hT] at his hinv
   rw [if_pos rfl] at hinv
   have k1:=k0 t Yan
   (repeat' (first|(apply Xy 12;refine U9 (args:=[]) rfl (.one 0 rfl .nil) Tryz.func148 rfl k1 rfl ?_ ?_)|refine Xf ?_|refine Xb ?_|refine Xd ?_|(apply Xk;(exact Xe rfl);exact rfl)|refine Xp ?_|refine Xs ?_|refine Xx rfl ?_|(apply Xi;exact rfl;(apply Xn;(refine Xl (.one 0 rfl .nil) Tryz.func184 rfl his rfl ?_;rintro _ _ ⟨rfl,rfl⟩)))))
   all_goals (try (exfalso;first|contradiction|omega))
   rotate_left
   · rintro ch loc ⟨e,g1,rfl,rfl⟩;((repeat (first|(with_reducible refine Wd ?_)|(with_reducible refine Wn ?_)));refine Xv (loc':=[]) (List.nil_sublist _) ?_);exact ⟨e,hinv.symm.trans (Xw (Xw g1)),rfl,rfl⟩
   rintro _ loc ⟨y,t2,g1,rfl,rfl⟩
   have hl2:=hls.lt g1
   have hw: ∀r,want sSemi t2= .ok ((),r)→Uv critB acc t=ret (acc++[y]) r:=fun r g=>(We g1).trans (We g)
   have k2:=Vn b t2 en qs sSemi
   (repeat' (first|(apply Xy 16;refine X6 (.one 1 rfl .nil) Tryz.func146 rfl k2 rfl ?_ ?_)|refine Xb ?_|refine Xd ?_|(apply Xk;exact Ya0;exact rfl)|(apply Xi;exact rfl;first|(apply V4;((refine V5 (k:=2) (l0:=[]) rfl rfl Yb4 rfl ?_));intro _)|(apply X5;(refine Wb rfl rfl ?_);intro _))))
   rotate_left
   · rintro ch loc ⟨e,g2,rfl,rfl⟩;((repeat (first|(with_reducible refine Wd ?_)|(with_reducible refine Wn ?_)));refine Xv (loc':=[]) (List.nil_sublist _) ?_);exact ⟨e,hinv.symm.trans (Xw (show Uv critB acc t= .error e from (We g1).trans (Xw g2))),rfl,rfl⟩
   rintro pw loc ⟨t3,g2,rfl⟩
   have hl3:=(W8 (Q:=TT) (Ra sSemi)).len g2
   rw [We (hw t3 g2)] at hinv
   (repeat' (refine Xd ?_))
   rename_i b13 v2
   refine ⟨(v2,acc++[y],t3),⟨hinv,by simp only [List.length_append,List.length_cons,List.length_nil];omega⟩,by show t3.length<t.length;omega,?_⟩
   simp only [List.length_append,List.flatMap_append,List.length_cons,List.length_nil,List.flatMap_cons,List.flatMap_nil,List.append_nil]
   exact Xg (by repeat (first|exact Xm|refine Xh rfl ?_)) Yc8
theorem Q6 (b:Nat) (ts:List TokD) (en:Nat) (qs:List SP) (w:List UInt8) (hts:ts.length≤70000):FnP Tryz.prog 149 [ex (.pointer (some ⟨b,0,none⟩)),exT w,Xdv (.func 186) [] [fp [ex (.pointer (some ⟨b,0,none⟩))],fp [exT w]]] [Ug b ts en qs] (fun p loc=> ∃x r,Sa w (R5 w) ts= .ok (x,r)∧p=isl eItem x∧loc=[Ug b r en qs]) (fun ch loc=> ∃e,Sa w (R5 w) ts= .error e∧Ua en e ch loc):=by
 have k0:=fun (ts:List TokD) (hts:ts.length≤70000)=>Xj2 b ts en qs w
 have hlw:Lw TT (R5 w):=Xfc (fun _ _ _=>trivial) (fun _ _=>trivial) fun w _=>Ra w
 have hls:Less (R5 w):=Xa9 w
 refine Ww Tryz.func149 rfl Tryz.ntmps149 rfl fun w0 F0 out=>?_
 generalize hres:Sa w (R5 w) ts=res
 unfold Sa at hres
 (repeat' (first|refine Xf ?_|refine Xb ?_|refine Xd ?_|(apply Xk;(exact Xj rfl);exact rfl)|refine Xp ?_))
 refine W1 (fun x:Value×List _×List TokD=>([(0,ex (.pointer (some ⟨b,0,none⟩))),(1,exT w),(2,Xdv (.func 186) [] [fp [ex (.pointer (some ⟨b,0,none⟩))],fp [exT w]]),(6,ex x.1)],[Ug b x.2.2 en qs,vec x.1 106 3 x.2.1.length (x.2.1.flatMap itemV)])) (fun x=>Xcl (isT w) (Uv (R5 w)) x.2.1 x.2.2=res∧x.2.1.length+x.2.2.length≤ts.length) (fun x=>x.2.2.length) (.slice none 0 0,[],ts) ?_ ⟨hres,by show 0+ts.length≤_;omega⟩ fun x hx=>?_
 · refine Tc 106 3 ?_
   refine Leads.trans (Vj (.swap _ _ _)) ?_
   exact Xg (by repeat (first|exact Xm|refine Xh rfl ?_)) (List.Sublist.refl _)
 obtain ⟨v,acc,t⟩:=x
 obtain ⟨hinv,hacc⟩:=hx
 simp only at hinv hacc ⊢
 clear hres
 rw [Sr rfl (T5 hls)] at hinv
 have his:=W4 b t en qs w
 cases hT:isT w t
 · rw [hT] at his hinv
   rw [if_neg Ybn] at hinv
   (repeat' (first|(apply Xy 17;refine Qw (k:=1) (t:=6) (E:=eItem) acc rfl rfl rfl rfl ?_ (hby:=by show _ * 32≤_;omega))|refine Xf ?_|refine Xb ?_|refine Xd ?_|(apply Xk;exact Ya0;exact rfl)|refine Xz ?_|refine Wy ?_|refine X2 rfl ?_|(apply Xi;exact rfl;(apply Xn;(refine Xl (.one 0 rfl .nil) Tryz.func184 rfl his rfl ?_;rintro _ _ ⟨rfl,rfl⟩)))))
   all_goals (try (exfalso;first|contradiction|omega))
   exact ⟨.inr rfl,Vk rfl (.tmp rfl) (List.Sublist.refl _) ⟨_,_,hinv.symm,rfl,rfl⟩⟩
 · rw [hT] at his hinv
   rw [if_pos rfl] at hinv
   have k1:=k0 t Yan
   (repeat' (first|(apply Xy 12;refine U9 (args:=[]) rfl (.one 0 rfl .nil) Tryz.func186 rfl k1 rfl ?_ ?_)|refine Xf ?_|refine Xb ?_|refine Xd ?_|(apply Xk;(exact Xe rfl);exact rfl)|refine Xp ?_|refine Xs ?_|refine Xx rfl ?_|(apply Xi;exact rfl;(apply Xn;(refine Xl (.one 0 rfl .nil) Tryz.func184 rfl his rfl ?_;rintro _ _ ⟨rfl,rfl⟩)))))
   all_goals (try (exfalso;first|contradiction|omega))
   rotate_left
   · rintro ch loc ⟨e,g1,rfl,rfl⟩;((repeat (first|(with_reducible refine Wd ?_)|(with_reducible refine Wn ?_)));refine Xv (loc':=[]) (List.nil_sublist _) ?_);exact ⟨e,hinv.symm.trans (Xw (Xw g1)),rfl,rfl⟩
   rintro _ loc ⟨y,t2,g1,rfl,rfl⟩
   have hl2:=hls.lt g1
   have hw: ∀r,want sSemi t2= .ok ((),r)→Uv (R5 w) acc t=ret (acc++[y]) r:=fun r g=>(We g1).trans (We g)
   have k2:=Vn b t2 en qs sSemi
   (repeat' (first|(apply Xy 16;refine X6 (.one 1 rfl .nil) Tryz.func146 rfl k2 rfl ?_ ?_)|refine Xb ?_|refine Xd ?_|(apply Xk;exact Ya0;exact rfl)|(apply Xi;exact rfl;first|(apply V4;((refine V5 (k:=2) (l0:=[]) rfl rfl Yb4 rfl ?_));intro _)|(apply X5;(refine Wb rfl rfl ?_);intro _))))
   rotate_left
   · rintro ch loc ⟨e,g2,rfl,rfl⟩;((repeat (first|(with_reducible refine Wd ?_)|(with_reducible refine Wn ?_)));refine Xv (loc':=[]) (List.nil_sublist _) ?_);exact ⟨e,hinv.symm.trans (Xw (show Uv (R5 w) acc t= .error e from (We g1).trans (Xw g2))),rfl,rfl⟩
   rintro pw loc ⟨t3,g2,rfl⟩
   have hl3:=(W8 (Q:=TT) (Ra sSemi)).len g2
   rw [We (hw t3 g2)] at hinv
   (repeat' (refine Xd ?_))
   rename_i b13 v2
   refine ⟨(v2,acc++[y],t3),⟨hinv,by simp only [List.length_append,List.length_cons,List.length_nil];omega⟩,by show t3.length<t.length;omega,?_⟩
   simp only [List.length_append,List.flatMap_append,List.length_cons,List.length_nil,List.flatMap_cons,List.flatMap_nil,List.append_nil]
   exact Xg (by repeat (first|exact Xm|refine Xh rfl ?_)) Yc8
theorem Xen (b:Nat) (ts:List TokD) (en:Nat) (qs:List SP) (w:List UInt8) (hts:ts.length≤70000):FnP Tryz.prog 151 [ex (.pointer (some ⟨b,0,none⟩)),exT w,Xdv (.func 152) [ex (.pointer (some ⟨b,0,none⟩))] []] [Ug b ts en qs] (fun p loc=> ∃x r,Sa w tieB ts= .ok (x,r)∧p=isl eTie x∧loc=[Ug b r en qs]) (fun ch loc=> ∃e,Sa w tieB ts= .error e∧Ua en e ch loc):=by
 have k0:=fun (ts:List TokD) (hts:ts.length≤70000)=>Xlf b ts en qs hts
 have hlw:Lw TT tieB:=Xmw (fun _ _ _=>trivial) (Ra _) (Ra _) fun w _=>Ra w
 have hls:Less tieB:=less_tie
 refine Ww Tryz.func151 rfl Tryz.ntmps151 rfl fun w0 F0 out=>?_
 generalize hres:Sa w tieB ts=res
 unfold Sa at hres
 (repeat' (first|refine Xf ?_|refine Xb ?_|refine Xd ?_|(apply Xk;(exact Xj rfl);exact rfl)|refine Xp ?_))
 refine W1 (fun x:Value×List _×List TokD=>([(0,ex (.pointer (some ⟨b,0,none⟩))),(1,exT w),(2,Xdv (.func 152) [ex (.pointer (some ⟨b,0,none⟩))] []),(6,ex x.1)],[Ug b x.2.2 en qs,vec x.1 74 2 x.2.1.length (x.2.1.flatMap tieV)])) (fun x=>Xcl (isT w) (Uv tieB) x.2.1 x.2.2=res∧x.2.1.length+x.2.2.length≤ts.length) (fun x=>x.2.2.length) (.slice none 0 0,[],ts) ?_ ⟨hres,by show 0+ts.length≤_;omega⟩ fun x hx=>?_
 · refine Tc 74 2 ?_
   refine Leads.trans (Vj (.swap _ _ _)) ?_
   exact Xg (by repeat (first|exact Xm|refine Xh rfl ?_)) (List.Sublist.refl _)
 obtain ⟨v,acc,t⟩:=x
 obtain ⟨hinv,hacc⟩:=hx
 simp only at hinv hacc ⊢
 clear hres
 rw [Sr rfl (T5 hls)] at hinv
 have his:=W4 b t en qs w
 cases hT:isT w t
 · rw [hT] at his hinv
   rw [if_neg Ybn] at hinv
   (repeat' (first|(apply Xy 17;refine Qw (k:=1) (t:=6) (E:=eTie) acc rfl rfl rfl rfl ?_ (hby:=by show _ * 40≤_;omega))|refine Xf ?_|refine Xb ?_|refine Xd ?_|(apply Xk;exact Ya0;exact rfl)|refine Xz ?_|refine Wy ?_|refine X2 rfl ?_|(apply Xi;exact rfl;(apply Xn;(refine Xl (.one 0 rfl .nil) Tryz.func184 rfl his rfl ?_;rintro _ _ ⟨rfl,rfl⟩)))))
   all_goals (try (exfalso;first|contradiction|omega))
   exact ⟨.inr rfl,Vk rfl (.tmp rfl) (List.Sublist.refl _) ⟨_,_,hinv.symm,rfl,rfl⟩⟩
 · rw [hT] at his hinv
   rw [if_pos rfl] at hinv
   have k1:=k0 t Yan
   (repeat' (first|(apply Xy 12;refine U9 (args:=[]) rfl (.one 0 rfl .nil) Tryz.func152 rfl k1 rfl ?_ ?_)|refine Xf ?_|refine Xb ?_|refine Xd ?_|(apply Xk;(exact Xe rfl);exact rfl)|refine Xp ?_|refine Xs ?_|refine Xx rfl ?_|(apply Xi;exact rfl;(apply Xn;(refine Xl (.one 0 rfl .nil) Tryz.func184 rfl his rfl ?_;rintro _ _ ⟨rfl,rfl⟩)))))
   all_goals (try (exfalso;first|contradiction|omega))
   rotate_left
   · rintro ch loc ⟨e,g1,rfl,rfl⟩;((repeat (first|(with_reducible refine Wd ?_)|(with_reducible refine Wn ?_)));refine Xv (loc':=[]) (List.nil_sublist _) ?_);exact ⟨e,hinv.symm.trans (Xw (Xw g1)),rfl,rfl⟩
   rintro _ loc ⟨y,t2,g1,rfl,rfl⟩
   have hl2:=hls.lt g1
   have hw: ∀r,want sSemi t2= .ok ((),r)→Uv tieB acc t=ret (acc++[y]) r:=fun r g=>(We g1).trans (We g)
   have k2:=Vn b t2 en qs sSemi
   (repeat' (first|(apply Xy 16;refine X6 (.one 1 rfl .nil) Tryz.func146 rfl k2 rfl ?_ ?_)|refine Xb ?_|refine Xd ?_|(apply Xk;exact Ya0;exact rfl)|(apply Xi;exact rfl;first|(apply V4;((refine V5 (k:=2) (l0:=[]) rfl rfl Yb4 rfl ?_));intro _)|(apply X5;(refine Wb rfl rfl ?_);intro _))))
   rotate_left
   · rintro ch loc ⟨e,g2,rfl,rfl⟩;((repeat (first|(with_reducible refine Wd ?_)|(with_reducible refine Wn ?_)));refine Xv (loc':=[]) (List.nil_sublist _) ?_);exact ⟨e,hinv.symm.trans (Xw (show Uv tieB acc t= .error e from (We g1).trans (Xw g2))),rfl,rfl⟩
   rintro pw loc ⟨t3,g2,rfl⟩
   have hl3:=(W8 (Q:=TT) (Ra sSemi)).len g2
   rw [We (hw t3 g2)] at hinv
   (repeat' (refine Xd ?_))
   rename_i b13 v2
   refine ⟨(v2,acc++[y],t3),⟨hinv,by simp only [List.length_append,List.length_cons,List.length_nil];omega⟩,by show t3.length<t.length;omega,?_⟩
   simp only [List.length_append,List.flatMap_append,List.length_cons,List.length_nil,List.flatMap_cons,List.flatMap_nil,List.append_nil]
   exact Xg (by repeat (first|exact Xm|refine Xh rfl ?_)) Yc8
end Go.Proofs.YthdldeenpgeemaaGreatDoor
