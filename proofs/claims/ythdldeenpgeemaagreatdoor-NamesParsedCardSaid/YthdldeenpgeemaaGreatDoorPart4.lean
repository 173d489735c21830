/- Frame: the statement that ranges Xsn a function whose rounds may leave by return; code in a round's frame. No program in sight. -/
import Derived.Test.YthdldeenpgeemaaGreatDoorPart3
import Derived.Recover
namespace Go.Fr
open Go.RowKit Go.Kx
class CalmC (Fe:Fence):Prop where
 out:Calm Fe
instance:CalmC Fence.wide:=⟨.inl rfl⟩
instance {l:Nat}:CalmC (Fence.wide.inRound l):=⟨.inr ⟨l,rfl⟩⟩
section
variable {C:Cx} {Fe:Fence} {n:Nat} {ops:Array Oper} {Q:Post} {env:Env} {loc:List Ent}
end
def YieldS (P:Program) (l:Nat) (args:List SP) (A:List Ent→Prop) (B:Bool→List Ent→Prop):Prop:= ∀m F w vals inn out,A inn→Good F (inn++out) w→CellsR F w args vals→
 YieldAt Fence.wide m P l vals.toArray w (fun e w'=> ∃r,e= .returned (.bool r)∧ ∃F' loc',B r loc'∧Good F' (loc'++out) w'∧Ch (T8 inn) w w'∧(∀b,F b→b<w.heap.size→F' b)∧ ∀e∈loc',∀b∈e.foot,w.heap.size≤b∨T8 inn b)
theorem YieldS.mono {P:Program} {l:Nat} {args:List SP} {A:List Ent→Prop} {B B':Bool→List Ent→Prop} (h:YieldS P l args A B) (hb: ∀r loc,B r loc→B' r loc):YieldS P l args A B':=fun m F w vals inn out hA hG hc=>by
 obtain ⟨fn,tmps,assign,body,hy,hr⟩:=h m F w vals inn out hA hG hc
 exact ⟨fn,tmps,assign,body,hy,hr.mono fun e w' ⟨r,he,F',loc',hB,hx⟩=>⟨r,he,F',loc',hb r loc' hB,hx⟩⟩
theorem YieldS.args {P:Program} {l:Nat} {ps qs:List SP} {A:List Ent→Prop} {B:Bool→List Ent→Prop} (h:YieldS P l qs A B) (hi:Ims ps qs):YieldS P l ps A B:=fun m F w vals inn out hA hG hc=>h m F w vals inn out hA hG (hi.cells hc)
end Go.Fr
namespace Go.Fr
open Go.RowKit Go.Kx
section
variable {C:Cx} {Fe:Fence} {n:Nat} {ops:Array Oper} {Q:Post} {env:Env} {loc:List Ent}
end
theorem Xov {C:Cx} {env:Env} {loc:List Ent} {t:Nat} {p q:SP} (ht:look t env=some p) (hi:Im p q):Leads C env loc ((t,q)::env) loc:=fun F a w hR=>⟨F,hR.good,fun t' p' hp=>by
   rw [Um] at hp
   split at hp
   · rename_i e;cases hp;subst e;exact hi _ _ _ (hR.env _ _ ht)
   · exact hR.env t' p' hp,hR.size,hR.defers,hR.ch,hR.own,hR.grow⟩
theorem Tw {C:Cx} {env:Env} {loc:List Ent} {k b T tot t:Nat} {ps:List SP} (he:loc[k]?=some (row b T tot ps)) (ht:look t env=some (ex (.pointer (some ⟨b,0,none⟩)))):Leads C env loc ((t,fp ps)::(t,fpx b ps)::env) (loc.eraseIdx k):=(Qm he ht).trans (Xov (by rw [Um,if_pos rfl]) Xmi)
theorem Xpg {k j:Nat} (h:k≤j) (l:List Ex):Im (exL k l) (exL j l):=by
 induction h with
 | refl=>exact Im.refl _
 | step _ ih=>exact fun F w v hv=>exL_mono _ l F w v (ih F w v hv)
theorem Xab {k j:Nat} (h:k≤j) (x:Ex):Ims (exV k x) (exV j x):= .cons (Im.refl _) (.cons (Im.refl _) (.cons (Im.refl _) (.cons (Im.refl _) (.cons (Xpg h _) .nil))))
end Go.Fr
namespace Go.Fr
open Go.RowKit Go.Kx
section
variable {C:Cx} {H:Nat→Prop} {env:Env} {loc:List Ent} {dst:Option Tmp} {ty:TypeId} {pos:String} {af:Array Edge} {g:Option (Nat×Bool)}
end
abbrev Cx.withD (C:Cx) (d:Deferred):Cx:={ C with dfs:=d::C.dfs }
structure WPLR (C:Cx) (ops:Array Oper) (T:Exit→Act→World→Prop) (l:List Oper) (env:Env) (loc:List Ent):Prop where
 out: ∀F a w,Rel C F env loc a w→wpList C.P ops T l a w
theorem Xec {C:Cx} {id:Nat} {l:List Oper} {y:Code} {T:Exit→Act→World→Prop} {env:Env} {loc:List Ent} (h:WPLR C l.toArray (Exit.then (y.wp C.P T) T) l env loc):WPR C (.seq (.region id l.toArray false) y) T env loc:=⟨fun F a w hR=>wp_seq (wp_region_lit (h.out F a w hR))⟩
theorem Xph {C:Cx} {ops:Array Oper} {T:Exit→Act→World→Prop} {d:Nat} {op:Op} {ty:TypeId} {pos:String} {af:Array Edge} {rest:List Oper} {p:SP} {env:Env} {loc:List Ent} (h:WT C (Xca fun _=>True) ⟨some d,op,ty,pos,af,none⟩ p env loc) (hd:Nat.blt d C.N=true) (hk:WPLR C ops T rest ((d,p)::env) loc):WPLR C ops T (⟨some d,op,ty,pos,af,none⟩::rest) env loc:=by
 constructor
 intro F a w hR
 unfold wpList
 rw [if_pos (by simp [Region.wanted])]
 have hw:=(V6 (K:=fun env loc=>WPLR C ops T rest env loc) (H:=fun _=>False) h hd hk).out F a w hR
 refine .inl (Qr ?_ (fun _ _ _ hf=>hf.elim) hw)
 rintro a' w' ⟨F',env',loc',hR',_,_,_,hk⟩
 exact hk.out F' a' w' hR'
def Xrk (Q:Post):Post:=fun e env loc=>e= .normal∧Q .normal env loc
theorem Xh9 {C:Cx} {c:Code} {Q:Post} {env:Env} {loc:List Ent} (h:WP C c (Xrk Q) env loc):WP C c Q env loc:=by
 refine ⟨fun F a w hR=>Code.wp_mono ?_ (h.out F a w hR)⟩
 rintro e a' w' ⟨F',env',loc',hR',rfl,hq⟩
 exact ⟨F',env',loc',hR',hq⟩
theorem Xql {Q:Post}: ∀c env loc,¬Xrk Q (.panic c) env loc:=fun _ _ _ h=>by cases h.1
theorem Xpi {C:Cx} {c:Code} {T:Exit→Act→World→Prop} {env:Env} {loc:List Ent} (h:WP C c (Xo9 C T) env loc):WPR C c T env loc:=by
 refine ⟨fun F a w hR=>Code.wp_mono ?_ (h.out F a w hR)⟩
 rintro e a' w' ⟨F',env',loc',hR',hq⟩
 exact hq F' a' w' hR'
end Go.Fr
namespace Go.Fr
open Go.RowKit Go.Kx
def Cx.marks (C:Cx):List Nat→Cx
 | []=>C
 | D::Ds=>(C.marks Ds).mark D
def roundT (C0:Cx) {α:Type} (I:α→Env×List Ent) (ok:α→Prop) (n:Nat) (μ:α→Nat) (T:Exit→Act→World→Prop):Exit→Act→World→Prop:=
 Exit.then (fun a' w'=> ∃Ds y F,(∀D∈Ds,C0.w0.heap.size≤D)∧ok y∧μ y<n∧Rel (C0.marks Ds) F (I y).1 (I y).2 a' w') T
end Go.Fr
namespace Go.Fr
open Go.RowKit Go.Kx
def FnP (P:Program) (f:FuncId) (args:List SP) (inn:List Ent) (R:SP→List Ent→Prop) (Rp:List PanicEntry→List Ent→Prop):Prop:=
 ∀(F:Nat→Prop) (w:World) (vals:List Value) (out:List Ent),Good F (inn++out) w→CellsR F w args vals→
   Calls P f vals.toArray w fun e w'=>(∃v F' p loc',e= .returned v∧R p loc'∧p.rel F' w' v∧Good F' (loc'++out) w'∧Ch (fun b=> ∃e∈inn,b∈e.foot) w w'∧(∀b,F b→b<w.heap.size→F' b)∧
     ∀e∈loc',∀b∈e.foot,w.heap.size≤b∨ ∃e∈inn,b∈e.foot)∨
   (∃ch F' loc',e= .panicked ch∧Rp ch loc'∧Good F' (loc'++out) w'∧Ch (fun b=> ∃e∈inn,b∈e.foot) w w'∧(∀b,F b→b<w.heap.size→F' b)∧
     ∀e∈loc',∀b∈e.foot,w.heap.size≤b∨ ∃e∈inn,b∈e.foot)
theorem FnC.toP {P:Program} {f:FuncId} {args:List SP} {inn:List Ent} {R:SP→List Ent→Prop} (Rp:List PanicEntry→List Ent→Prop) (h:FnC P f args inn R):FnP P f args inn R Rp:=
 fun F w vals out hG hA=>(h F w vals out hG hA).mono fun _ _ hx=> .inl hx
def Xrl (C:Cx) (fn:Func) (R:SP→List Ent→Prop) (Rp:List PanicEntry→List Ent→Prop):Post
 | .normal,env,loc=>Xjk C fn R .normal env loc
 | .ret,env,loc=>Xjk C fn R .ret env loc
 | .panic ch,env,loc=> ∀F a w,Rel C F env loc a w→ ∃F' loc',Rp ch loc'∧Good F' (loc'++C.out) w∧(∀b,C.F0 b→b<C.w0.heap.size→F' b)∧ ∀e∈loc',∀b∈e.foot,C.w0.heap.size≤b∨C.X b
 | _,_,_=>False
theorem Xv {C:Cx} {fn:Func} {R:SP→List Ent→Prop} {Rp:List PanicEntry→List Ent→Prop} {ch:List PanicEntry} {env:Env} {loc loc':List Ent} (hs:loc'.Sublist loc) (h:Rp ch loc'):Xrl C fn R Rp (.panic ch) env loc:=
 fun F _ _ hR=>⟨F,loc',h,hR.good.drop hs,hR.grow,fun e he=>hR.own e (hs.subset he)⟩
theorem Ww {P:Program} {f:FuncId} {fn:Func} {c:Code} {args:List SP} {inn:List Ent} {R:SP→List Ent→Prop} {Rp:List PanicEntry→List Ent→Prop} {N:Nat} (hf:P.funcs[f]?=some fn) (hb:fn.body=some c) (hN:fn.ntmps=N) (hle:Nat.ble args.length N=true)
   (h: ∀w0 F0 out,WP ⟨P,w0,F0,T8 inn,out,N,[]⟩ c (Xrl ⟨P,w0,F0,T8 inn,out,N,[]⟩ fn R Rp) (Xb9 0 args) inn):FnP P f args inn R Rp:=by
 intro F w vals out hG hA
 have hle':args.length≤N:=Nat.le_of_ble_eq_true hle
 have hsz:vals.length=args.length:=hA.len
 refine calls_of_wp hf hb (Code.wp_mono ?_ ((h w F out).out F _ w ⟨hG,?_,?_,rfl,Ch.refl _ _,fun e he b hb=> .inr ⟨e,he,hb⟩,fun b hb _=>hb⟩))
 · rintro e a' w' ⟨F',env',loc',hR',hq⟩
   cases e with
   | normal=>
     obtain ⟨F2,v,p,loc2,h1,h2,h3,h4,h5,h6⟩:=hq.2 F' a' w' hR'
     exact bodyPost_end h1 hR'.defers (.inl ⟨v,F2,p,loc2,rfl,h2,h3,h4,hR'.ch,h5,h6⟩)
   | ret=>
     obtain ⟨F2,v,p,loc2,h1,h2,h3,h4,h5,h6⟩:=hq.2 F' a' w' hR'
     exact bodyPost_ret h1 hR'.defers (.inl ⟨v,F2,p,loc2,rfl,h2,h3,h4,hR'.ch,h5,h6⟩)
   | panic ch=>
     obtain ⟨F2,loc2,h2,h4,h5,h6⟩:=hq F' a' w' hR'
     exact ⟨hR'.defers,.inr ⟨ch,F2,loc2,rfl,h2,h4,hR'.ch,h5,h6⟩⟩
   | exit _=>exact hq.elim
   | goto _=>exact hq.elim
   | outgrown=>exact hq.elim
 · intro t p hp
   obtain ⟨j,rfl,hj⟩:=Rb hp
   obtain ⟨v,hv,hr⟩:=hA.at_ j p hj
   have hlt:j<vals.length:=(List.getElem?_eq_some_iff.1 hv).1
   have hx:(vals.toArray++Array.replicate (fn.ntmps-vals.toArray.size) undef).getD (0+j) undef=v:=by
     rw [Nat.zero_add,Array.getD_eq_getD_getElem?,Array.getElem?_append_left (by simpa using hlt)]
     simp [hv]
   rw [hx];exact hr
 · rw [hN];simp;omega
section
variable {C:Cx} {env:Env} {loc:List Ent} {d:Nat} {ty:TypeId} {pos:String} {af:Array Edge} {ops:Array Oper} {Q:Post} {rest:List Oper}
theorem Rel.panicG {F F':Nat→Prop} {a:Act} {w w':World} {inn suf:List Ent} {loc':List Ent} (hR:Rel C F env loc a w) (ht:Takes loc inn suf) (hG:Good F' (loc'++(suf++C.out)) w') (hch:Ch (fun b=> ∃e'∈inn,b∈e'.foot) w w') (hgr: ∀b,F b→b<w.heap.size→F' b)
   (hown: ∀e'∈loc',∀b∈e'.foot,w.heap.size≤b∨ ∃e'∈inn,b∈e'.foot):Rel C F' env (loc'++suf) a w':=by
 have hblk: ∀b,b<w.heap.size→(∀e∈inn,b∉e.foot)→w'.heap[b]?=w.heap[b]?:=fun b hb hn=>hch.block b hb (by rintro ⟨e',he',h⟩;exact hn e' he' h)
 have hG0:=ht.good hR.good
 have hm: ∀b,F b→b<w.heap.size→F' b∧w'.heap[b]?=w.heap[b]?:=fun b hb hlt=>⟨hgr b hb hlt,hblk b hlt fun e he h=>(hG0.lt e (List.mem_append_left _ he) b h).2 hb⟩
 refine ⟨by rw [List.append_assoc];exact hG,fun t q hq=>q.mono (hR.env t q hq) hm,hR.size,hR.defers,?_,?_,fun b hb hlt=>(hm b (hR.grow b hb hlt) (Nat.lt_of_lt_of_le hlt hR.ch.size)).1⟩
 · refine ⟨hch.os.trans hR.ch.os,hch.tape.trans hR.ch.tape,hch.output.trans hR.ch.output,Nat.le_trans hR.ch.size hch.size,fun j hj hx=>(hblk j (Nat.lt_of_lt_of_le hj hR.ch.size) fun e he h=>?_).trans (hR.ch.block j hj hx)⟩
   obtain ⟨e',h1,h2⟩:=ht.foot e he j h
   rcases hR.own e' h1 j h2 with h|h
   · omega
   · exact hx h
 · intro e' he' b hb
   rcases List.mem_append.1 he' with h|h
   · rcases hown e' h b hb with h|⟨e2,h2,h3⟩
     · exact .inl (Nat.le_trans hR.ch.size h)
     · obtain ⟨e3,h4,h5⟩:=ht.foot e2 h2 b h3
       exact hR.own e3 h4 b h5
   · exact hR.own e' (ht.rest _ h) b hb
theorem X6 {f:FuncId} {fn:Func} {c:Code} {xs:Array Operand} {ts:Array TypeId} {args:List SP} {inn suf:List Ent} {R:SP→List Ent→Prop} {Rp:List PanicEntry→List Ent→Prop} (ht:Takes loc inn suf) (hf:C.P.funcs[f]?=some fn) (hbody:fn.body=some c) (hc:FnP C.P f args inn R Rp) (ha:xs.toList.map (ev env)=args.map some)
   (hk: ∀p loc',R p loc'→WPL C ops Q rest ((d,p)::env) (loc'++suf)) (hp: ∀ch loc',Rp ch loc'→Q (.panic ch) env (loc'++suf)) (hname:(fn.name== "runtime.NumGoroutine")=false:=by rfl) (hd:Nat.blt d C.N=true:=by rfl):WPL C ops Q (⟨some d,.call ⟨.value (.func f),xs,ts⟩,ty,pos,af,none⟩::rest) env loc:=by
 constructor
 intro F a w hR
 refine wpList_plain rfl fun K hK=>?_
 have hG0:=ht.good hR.good
 unfold Oper.wp
 rw [Xas hf hbody hname]
 refine (hc F w _ _ hG0 (Tb hR ha)).mono ?_
 rintro e2 w' (⟨v,F',p,loc',rfl,hRp,hpr,hG,hch,hgr,hown⟩|⟨ch,F',loc',rfl,hRp,hG,hch,hgr,hown⟩)
 · exact hK _ _ ((hk p loc' hRp).out F' _ w' (hR.calledG ht hpr hG hch hgr hown hd))
 · exact ⟨F',env,_,hR.panicG ht hG hch hgr hown,hp ch loc' hRp⟩
theorem S4 {f:FuncId} {fn:Func} {c:Code} {x:Operand} {vs:List Value} {caps:List SP} {xs:Array Operand} {ts:Array TypeId} {args:List SP} {inn suf:List Ent} {R:SP→List Ent→Prop} {Rp:List PanicEntry→List Ent→Prop} (hx:ev env x=some (ex (.func (.func f) #[] vs.toArray))) (hcap:CapOk env vs caps) (ht:Takes loc inn suf) (hf:C.P.funcs[f]?=some fn) (hbody:fn.body=some c) (hc:FnP C.P f (args++caps) inn R Rp) (ha:xs.toList.map (ev env)=args.map some)
   (hk: ∀p loc',R p loc'→WPL C ops Q rest ((d,p)::env) (loc'++suf)) (hp: ∀ch loc',Rp ch loc'→Q (.panic ch) env (loc'++suf)) (hname:(fn.name== "runtime.NumGoroutine")=false:=by rfl) (hd:Nat.blt d C.N=true:=by rfl):WPL C ops Q (⟨some d,.call ⟨.value x,xs,ts⟩,ty,pos,af,none⟩::rest) env loc:=by
 constructor
 intro F a w hR
 refine wpList_plain rfl fun K hK=>?_
 have hG0:=ht.good hR.good
 have hcv:CellsR F w (args++caps) (xs.toList.map a.eval++vs):=(Tb hR ha).app (hcap.cells hR)
 unfold Oper.wp
 rw [Xcv (X8 hR hx) hf hbody hname]
 refine (hc F w _ _ hG0 hcv).mono ?_
 rintro e2 w' (⟨v,F',p,loc',rfl,hRp,hpr,hG,hch,hgr,hown⟩|⟨ch,F',loc',rfl,hRp,hG,hch,hgr,hown⟩)
 · exact hK _ _ ((hk p loc' hRp).out F' _ w' (hR.calledG ht hpr hG hch hgr hown hd))
 · exact ⟨F',env,_,hR.panicG ht hG hch hgr hown,hp ch loc' hRp⟩
theorem Rs {dst:Option Tmp} {x:Operand} {T:TypeId} {v:Value} (hx:ev env x=some (ex (.iface T v))) (hp:Q (.panic [{ v:= .iface T v,recovered:=false }]) env loc):WPL C ops Q (⟨dst,.panic x,ty,pos,af,none⟩::rest) env loc:=by
 constructor
 intro F a w hR
 refine wpList_plain rfl fun K hK=>?_
 have hv:=X8 hR hx
 unfold Oper.wp
 have hrun:(execOp a.eval ⟨dst,.panic x,ty,pos,af,none⟩).run C.P w= .halt (.panic (.iface T v)) w:=by
   have hv:a.eval x= .iface T v:=hv
   generalize a.eval=ρ at hv ⊢
   simp [execOp,hv,Instr.panic,go_sem,goPanic]
 rw [hrun]
 exact ⟨F,env,loc,hR,hp⟩
end
end Go.Fr
namespace Go.Fr
open Go.RowKit Go.Kx
abbrev Xqz (C0:Cx) (fn:Func) (R:SP→List Ent→Prop):Exit→Act→World→Prop:=bodyPostD C0.P fn (fnR C0 R)
theorem Xbu {P:Program} {f:FuncId} {fn:Func} {c:Code} {args:List SP} {inn:List Ent} {R:SP→List Ent→Prop} {N:Nat} (hf:P.funcs[f]?=some fn) (hb:fn.body=some c) (hN:fn.ntmps=N) (hle:Nat.ble args.length N=true)
   (h: ∀w0 F0 out,WPR ⟨P,w0,F0,T8 inn,out,N,[]⟩ c (Xqz ⟨P,w0,F0,T8 inn,out,N,[]⟩ fn R) (Xb9 0 args) inn):FnC P f args inn R:=by
 intro F w vals out hG hA
 have hle':args.length≤N:=Nat.le_of_ble_eq_true hle
 have hsz:vals.length=args.length:=hA.len
 refine calls_of_wp_defers hf hb ((h w F out).out F _ w ⟨hG,?_,?_,rfl,Ch.refl _ _,fun e he b hb=> .inr ⟨e,he,hb⟩,fun b hb _=>hb⟩)
 · intro t p hp
   obtain ⟨j,rfl,hj⟩:=Rb hp
   obtain ⟨v,hv,hr⟩:=hA.at_ j p hj
   have hlt:j<vals.length:=(List.getElem?_eq_some_iff.1 hv).1
   have hx:(vals.toArray++Array.replicate (fn.ntmps-vals.toArray.size) undef).getD (0+j) undef=v:=by
     rw [Nat.zero_add,Array.getD_eq_getD_getElem?,Array.getElem?_append_left (by simpa using hlt)]
     simp [hv]
   rw [hx];exact hr
 · rw [hN];simp;omega
theorem Xna {C0:Cx} {fn:Func} {R:SP→List Ent→Prop} {e:Exit} {env:Env} {loc:List Ent} (hd:C0.dfs=[]) (h:Xjk C0 fn R e env loc):Xo9 C0 (Xqz C0 fn R) e env loc:=by
 intro F a w hR
 obtain ⟨F',v,p,loc',h1,h2,h3,h4,h5,h6⟩:=h.2 F a w hR
 have hdf:a.defers=[]:=hR.defers.trans hd
 have hpost:fnR C0 R (.returned v) w:=⟨v,F',p,loc',rfl,h2,h3,h4,hR.ch,h5,h6⟩
 have key:Leaves C0.P fn a.tmps (fnR C0 R) a.defers .returning w:=by rw [hdf];exact ⟨v,h1,hpost⟩
 rcases h.1 with rfl|rfl<;>exact key
def FnD (P:Program) (f:FuncId) (args:List SP) (inn:List Ent) (u:FrameMode) (R:FrameMode→List Ent→Prop):Prop:=
 ∀(F:Nat→Prop) (w:World) (vals:List Value) (out:List Ent),Good F (inn++out) w→CellsR F w args vals→
   CallsD P f vals.toArray u w fun e u' w'=> ∃v F' loc',e= .returned v∧R u' loc'∧Good F' (loc'++out) w'∧Ch (fun b=> ∃e∈inn,b∈e.foot) w w'∧(∀b,F b→b<w.heap.size→F' b)∧
     ∀e∈loc',∀b∈e.foot,w.heap.size≤b∨ ∃e∈inn,b∈e.foot
theorem Xdb {C:Cx} {ops:Array Oper} {y:Code} {T:Exit→Act→World→Prop} {dst:Option Tmp} {ty:TypeId} {pos:String} {af:Array Edge} {g:Fn} {x:Operand} {ts:Array TypeId} {env:Env} {loc:List Ent} {vs:Array Value} (hx:ev env x=some (ex (.func g #[] vs))) (hk:WPR (C.withD ⟨.fn g vs,#[]⟩) y T env loc) (hdst:dst=none):WPLR C ops (Exit.then (y.wp C.P T) T) [⟨dst,.defer ⟨.value x,#[],ts⟩,ty,pos,af,none⟩] env loc:=by
 subst hdst
 constructor
 intro F a w hR
 unfold wpList
 rw [if_pos (by simp [Region.wanted])]
 refine .inl ?_
 have hv:a.eval x= .func g #[] vs:=X8 hR hx
 unfold Oper.wp
 have hrun:(execOp a.eval ⟨none,.defer ⟨.value x,#[],ts⟩,ty,pos,af,none⟩).run C.P w= .ok (.defer ⟨.fn g vs,#[]⟩) w:=by
   generalize a.eval=ρ at hv ⊢
   simp [execOp,resolve,hv,Deferred.ofValue,go_sem]
 rw [hrun]
 exact hk.out F _ w ⟨hR.good,hR.env,hR.size,by show _::a.defers=_::C.dfs;rw [hR.defers],hR.ch,hR.own,hR.grow⟩
theorem Xnb {P:Program} {f:FuncId} {fn:Func} {c:Code} {vs:Array Value} (hf:P.funcs[f]?=some fn) (hbody:fn.body=some c) (hname:(fn.name== "runtime.NumGoroutine")=false) (w:World):(invoke (.fn (.func f) vs) #[]).run P w= .ok (.enter f vs) w:=by
 have hname': ¬fn.name= "runtime.NumGoroutine":=by simpa using hname
 simp [invoke,callFunc,go_sem,hf,hname',hbody]
def modeOf:Exit→Option FrameMode
 | .normal| .ret=>some .returning
 | .panic ch=>some (.panicking ch)
 | _=>none
theorem Xow {C0:Cx} {fn:Func} {R:SP→List Ent→Prop} {e:Exit} {env:Env} {loc inn suf:List Ent} {u:FrameMode} {g:FuncId} {gn:Func} {gc:Code} {args:List SP} {vs:List Value} {Rd:FrameMode→List Ent→Prop} (hd:C0.dfs=[]) (hu:modeOf e=some u) (ht:Takes loc inn suf) (hf:C0.P.funcs[g]?=some gn) (hbody:gn.body=some gc) (hname:(gn.name== "runtime.NumGoroutine")=false) (hc:FnD C0.P g args inn u Rd) (hcap:CapOk env vs args)
   (hk: ∀u' loc',Rd u' loc'→settle u'= .returning∧Xjk C0 fn R .ret env (loc'++suf)):Xo9 (C0.withD ⟨.fn (.func g) vs.toArray,#[]⟩) (Xqz C0 fn R) e env loc:=by
 intro F a w hR
 have hR0:Rel C0 F env loc { a with defers:=[] } w:=⟨hR.good,hR.env,hR.size,hd.symm,hR.ch,hR.own,hR.grow⟩
 have hdf:a.defers=[⟨.fn (.func g) vs.toArray,#[]⟩]:=by rw [hR.defers];show _::C0.dfs=_;rw [hd]
 have hG0:Good F (inn++(suf++C0.out)) w:=ht.good hR0.good
 have hcv:CellsR F w args vs:=hcap.cells hR0
 have hrun:u≠ .run:=by
   rintro rfl
   cases e<;>simp [modeOf] at hu
 have key:Leaves C0.P fn a.tmps (fnR C0 R) a.defers u w:=by
   rw [hdf]
   refine leaves_cons hrun (Xnb hf hbody hname w) ?_
   refine CallsD.mono (hc F w _ _ hG0 hcv) ?_
   rintro e2 u' w' ⟨v,F',loc',rfl,hRd,hG,hch,hgr,hown⟩
   obtain ⟨hs,hret⟩:=hk u' loc' hRd
   have hR2:=hR0.panicG ht hG hch hgr hown
   obtain ⟨F2,v2,p2,loc2,g1,g2,g3,g4,g5,g6⟩:=hret.2 F' _ w' hR2
   show Leaves C0.P fn a.tmps (fnR C0 R) [] (settle u') w'
   rw [hs]
   exact ⟨v2,g1,v2,F2,p2,loc2,rfl,g2,g3,g4,hR2.ch,g5,g6⟩
 cases e with
 | normal=>simp only [modeOf,Option.some.injEq] at hu;subst hu;exact key
 | ret=>simp only [modeOf,Option.some.injEq] at hu;subst hu;exact key
 | panic ch=>simp only [modeOf,Option.some.injEq] at hu;subst hu;exact key
 | exit _=>simp [modeOf] at hu
 | goto _=>simp [modeOf] at hu
 | outgrown=>simp [modeOf] at hu
end Go.Fr
namespace Go.Fr
open Go.RowKit Go.Kx
def concB:TypeDesc→Bool
 | .interface _=>false
 | _=>true
section
variable {C:Cx} {S:(Nat→Prop)→World→World→Prop} {env:Env} {loc:List Ent} {dst:Option Tmp} {ty:TypeId} {pos:String} {af:Array Edge} {g:Option (Nat×Bool)}
theorem Xfd {x:Operand} {T:TypeId} {v:Value} {dd:TypeDesc} (hx:ev env x=some (ex v)) (ht:C.P.underlying T=some dd) (hn:concB dd=true:=by rfl):WT C S ⟨dst,.makeInterface T x,ty,pos,af,g⟩ (ex (.iface T v)) env loc:=by
 constructor
 intro F a w hR
 have hv:a.eval x=v:=X8 hR hx
 refine ⟨_,rfl,fun w' _=>?_⟩
 generalize a.eval=ρ at hv ⊢
 cases dd<;>first|(cases hn;done)|simp [execOp,Instr.makeInterface,hv,Vz ht,go_sem]
theorem Xnc {x:Operand} {xT T:TypeId} {v:Value} {dd:TypeDesc} (hx:ev env x=some (ex (.iface T v))) (ht:C.P.underlying T=some dd) (hn:concB dd=true:=by rfl):WT C S ⟨dst,.typeAssert x xT T false,ty,pos,af,g⟩ (ex v) env loc:=by
 constructor
 intro F a w hR
 have hv:a.eval x= .iface T v:=X8 hR hx
 refine ⟨_,rfl,fun w' _=>?_⟩
 generalize a.eval=ρ at hv ⊢
 cases dd<;>first|(cases hn;done)|simp [execOp,Instr.typeAssert,hv,Vz ht,go_sem]
theorem Xed (l:List UInt8) (lo hi:Nat):(⟨l.toArray⟩:ByteArray).extract lo hi=⟨((l.take hi).drop lo).toArray⟩:=by
 apply ByteArray.ext
 rw [ByteArray.data_extract]
 apply Array.ext'
 rw [Array.toList_extract]
 simp [List.extract,List.drop_take]
theorem Xnd (l:List UInt8):(⟨l.toArray⟩:ByteArray).size=l.length:=by show l.toArray.size=l.length;simp
theorem Xia {l:List UInt8} {t:TypeId} {x y z:Operand} {k k2:IntKind} {a1 a2:Int} {lo hi:Nat} (hx:ev env x=some (exT l)) (hy:ev env y=some (exI k a1)) (hz:ev env z=some (exI k2 a2)) [e1:Nt a1 lo] [e2:Nt a2 hi] (ht:C.P.underlying t=some .string) (h1:lo≤hi:=by first|omega|(simp;done)|(simp;omega)) (h2:hi≤l.length:=by first|omega|(simp;done)|(simp;omega)):
   WT C S ⟨dst,.slice t x (some y) (some z) none,ty,pos,af,g⟩ (exT ((l.take hi).drop lo)) env loc:=by
 constructor
 intro F a w hR
 obtain ⟨rfl⟩:=e1;obtain ⟨rfl⟩:=e2
 have hv:a.eval x= .string ⟨l.toArray⟩:=X8 hR hx
 have hvy:a.eval y= .int k lo:=X8 hR hy
 have hvz:a.eval z= .int k2 hi:=X8 hR hz
 refine ⟨_,rfl,fun w' _=>?_⟩
 have hsz:=Xnd l
 have he:=Xed l lo hi
 generalize a.eval=ρ at hv hvy hvz ⊢
 generalize (⟨l.toArray⟩:ByteArray)=s at hv hsz he
 have h4:hi≤s.size:=by omega
 simp [execOp,hv,hvy,hvz,Instr.sliceAt,Instr.slice,Instr.sliceBounds,Instr.sliceBound,asIntOf,Vz ht,go_sem,he,h1,h4]
theorem Xfe {l:List UInt8} {t:TypeId} {x y:Operand} {k:IntKind} {a1:Int} {lo:Nat} (hx:ev env x=some (exT l)) (hy:ev env y=some (exI k a1)) [e1:Nt a1 lo] (ht:C.P.underlying t=some .string) (h1:lo≤l.length:=by first|omega|(simp;done)|(simp;omega)):
   WT C S ⟨dst,.slice t x (some y) none none,ty,pos,af,g⟩ (exT (l.drop lo)) env loc:=by
 constructor
 intro F a w hR
 obtain ⟨rfl⟩:=e1
 have hv:a.eval x= .string ⟨l.toArray⟩:=X8 hR hx
 have hvy:a.eval y= .int k lo:=X8 hR hy
 refine ⟨_,rfl,fun w' _=>?_⟩
 have hsz:=Xnd l
 have he:=Xed l lo l.length
 rw [List.take_length] at he
 generalize a.eval=ρ at hv hvy ⊢
 generalize (⟨l.toArray⟩:ByteArray)=s at hv hsz he
 have h4: ¬s.size<lo:=by omega
 rw [←hsz] at he
 simp [execOp,hv,hvy,Instr.sliceAt,Instr.slice,Instr.sliceBounds,Instr.sliceBound,asIntOf,Vz ht,go_sem,he,h4]
theorem Xdc {t:TypeId} {x:Operand} {p:SP} (h:WT C S ⟨dst,.makeInterface t x,ty,pos,af,g⟩ p env loc):WT C S ⟨dst,.makeInterface t x,ty,pos,af,g⟩ p env loc:=h
theorem Xox {x:Operand} {t u:TypeId} {b:Bool} {p:SP} (h:WT C S ⟨dst,.typeAssert x t u b,ty,pos,af,g⟩ p env loc):WT C S ⟨dst,.typeAssert x t u b,ty,pos,af,g⟩ p env loc:=h
end
end Go.Fr
namespace Go.Lx
def inR (c:UInt8) (a b:Nat):Bool:=decide (a≤c.toNat∧c.toNat≤b)
def V8 (c:UInt8):Bool:=inR c 97 122||inR c 65 90
def digitB (c:UInt8):Bool:=inR c 48 57
def spaceB (c:UInt8):Bool:=decide (c=32∨c=9∨c=10∨c=13)
def signL:List UInt8:=[123,125,40,41,59,44,61,58,46,60,62,33,43,45,42,47]
def Su (c:UInt8):Bool:=decide (c∈signL)
def partB (c:UInt8):Bool:=V8 c||(digitB c||decide (c=95))
def lineB (c:UInt8):Bool:=decide (c≠10)
def Rv (s:List UInt8):Nat:=s.foldl (fun n c=>10 * n+(c.toNat-48)) 0
structure TokD where
 kind:Int
 text:List UInt8
 n:Int
 at_:Int
instance:DecidableEq TokD:=fun a b=>decidable_of_iff (a.kind=b.kind∧a.text=b.text∧a.n=b.n∧a.at_=b.at_) Ydj
def Xbv (s:List UInt8):Bool:=decide (1≤s.length∧s.length≤32)&&(((s.head?).map V8).getD false&&s.all partB)
def Xib (t:List UInt8):Bool:=decide (Rv t≤1099511627776)&&(decide (t.length=1)||decide (t.head?≠some 48))
inductive St where
 | skip (n:Nat)
 | tok (n:Nat) (kind:Int) (text:List UInt8) (v:Int)
 | bad
def St.len:St→Nat
 | skip n=>n
 | tok n _ _ _=>n
 | bad=>0
def step:List UInt8→St
 | []=> .bad
 | c::s=>
   if spaceB c then .skip 1
   else if c=47∧s.head?=some 47 then .skip ((c::s).takeWhile lineB).length
   else if V8 c then (if ((c::s).takeWhile partB).length≤32 then .tok ((c::s).takeWhile partB).length 1 ((c::s).takeWhile partB) 0 else .bad)
   else if digitB c then (if Xib ((c::s).takeWhile digitB) then .tok ((c::s).takeWhile digitB).length 2 [] (Rv ((c::s).takeWhile digitB)) else .bad)
   else if Su c then .tok 1 3 [c] 0 else .bad
def lexG:Nat→Nat→List UInt8→Except Nat (List TokD)
 | _,_,[]=> .ok []
 | 0,p,_::_=> .error p
 | f+1,p,c::s=>match step (c::s) with
   | .bad=> .error p
   | .skip n=>lexG f (p+n) ((c::s).drop n)
   | .tok n k t v=>(lexG f (p+n) ((c::s).drop n)).map (⟨k,t,v,p⟩:: ·)
def Sb (p:Nat) (s:List UInt8):Except Nat (List TokD):=lexG s.length p s
theorem Tx (c:UInt8):(V8 c=true→spaceB c=false∧digitB c=false∧Su c=false∧c≠47∧c≠95∧c≠32)∧(digitB c=true→spaceB c=false∧V8 c=false∧Su c=false∧c≠47∧c≠95∧c≠32)∧(Su c=true→spaceB c=false∧V8 c=false∧digitB c=false∧c≠95∧c≠32)∧(spaceB c=true→partB c=false∧digitB c=false∧V8 c=false∧Su c=false∧c≠47):=by
 have key: ∀n:Fin 256,(V8 (UInt8.ofNat n.val)=true→spaceB (UInt8.ofNat n.val)=false∧digitB (UInt8.ofNat n.val)=false∧Su (UInt8.ofNat n.val)=false∧UInt8.ofNat n.val≠47∧UInt8.ofNat n.val≠95∧UInt8.ofNat n.val≠32)∧(digitB (UInt8.ofNat n.val)=true→spaceB (UInt8.ofNat n.val)=false∧V8 (UInt8.ofNat n.val)=false∧Su (UInt8.ofNat n.val)=false∧UInt8.ofNat n.val≠47∧UInt8.ofNat n.val≠95∧UInt8.ofNat n.val≠32)∧(Su (UInt8.ofNat n.val)=true→spaceB (UInt8.ofNat n.val)=false∧V8 (UInt8.ofNat n.val)=false∧digitB (UInt8.ofNat n.val)=false∧UInt8.ofNat n.val≠95∧UInt8.ofNat n.val≠32)∧(spaceB (UInt8.ofNat n.val)=true→partB (UInt8.ofNat n.val)=false∧digitB (UInt8.ofNat n.val)=false∧V8 (UInt8.ofNat n.val)=false∧Su (UInt8.ofNat n.val)=false∧UInt8.ofNat n.val≠47):=by decide +kernel
 have h:=key ⟨c.toNat,c.toNat_lt⟩
 rw [show UInt8.ofNat c.toNat=c from UInt8.ofNat_toNat] at h
 exact h
theorem Xne {α:Type} {p:α→Bool}: ∀{a b:List α},(∀x∈a,p x=true)→(∀c r,b=c::r→p c=false)→(a++b).takeWhile p=a
 | [],[],_,_=>rfl
 | [],c::r,_,h=>by rw [List.nil_append,List.takeWhile_cons,h c r rfl];rfl
 | x::a,b,h,hb=>by
   rw [List.cons_append,List.takeWhile_cons,h x List.mem_cons_self,if_pos rfl,Xne (fun y hy=>h y (List.mem_cons_of_mem _ hy)) hb]
theorem Xdd {α:Type} {p:α→Bool}: ∀{s:List α},∀x∈s.takeWhile p,p x=true
 | [],x,h=>by cases h
 | c::s,x,h=>by
   rw [List.takeWhile_cons] at h
   by_cases hc:p c=true
   · rw [if_pos hc] at h
     rcases List.mem_cons.1 h with rfl|h
     · exact hc
     · exact Xdd x h
   · rw [if_neg hc] at h;cases h
theorem Xic {α:Type} {p:α→Bool}: ∀{s:List α},∀c r,s.drop (s.takeWhile p).length=c::r→p c=false
 | [],c,r,h=>by cases h
 | x::s,c,r,h=>by
   rw [List.takeWhile_cons] at h
   by_cases hx:p x=true
   · rw [if_pos hx,List.length_cons,List.drop_succ_cons] at h
     exact Xic c r h
   · rw [if_neg hx] at h
     injection h with h1 h2
     subst h1;simpa using hx
theorem Xal {α:Type} {p:α→Bool}: ∀(s:List α),s.take (s.takeWhile p).length=s.takeWhile p
 | []=>rfl
 | x::s=>by
   rw [List.takeWhile_cons]
   by_cases hx:p x=true
   · rw [if_pos hx,List.length_cons,List.take_succ_cons,Xal s]
   · rw [if_neg hx];rfl
theorem Xac {α:Type} {p:α→Bool} (s:List α):(s.takeWhile p).length≤s.length:=(List.takeWhile_sublist _).length_le
def St.stop (r:St) (a:List UInt8) (c:UInt8):Prop:=match r with
 | .skip _=>(∃d x,a=[d]∧x=d∧spaceB d=true)∨lineB c=false
 | .tok _ k t _=>(k=1→partB c=false)∧(k=2→digitB c=false)∧(k=3→t=[47]→c≠47)
 | .bad=>True
end Go.Lx
namespace Go.Lx
theorem Td {c:UInt8} (h:V8 c=true):partB c=true:=by unfold partB;rw [h];rfl
theorem Xqm {c:UInt8} (h:c≠10):lineB c=true:=by unfold lineB;exact decide_eq_true h
theorem T7 (c:UInt8) (s:List UInt8):step (c::s)=if spaceB c then .skip 1
   else if c=47∧s.head?=some 47 then .skip ((c::s).takeWhile lineB).length
   else if V8 c then (if ((c::s).takeWhile partB).length≤32 then .tok ((c::s).takeWhile partB).length 1 ((c::s).takeWhile partB) 0 else .bad)
   else if digitB c then (if Xib ((c::s).takeWhile digitB) then .tok ((c::s).takeWhile digitB).length 2 [] (Rv ((c::s).takeWhile digitB)) else .bad)
   else if Su c then .tok 1 3 [c] 0 else .bad:=rfl
theorem Xbw {c:UInt8} (h:spaceB c=true) (b:List UInt8):step (c::b)= .skip 1:=by rw [T7,if_pos h]
theorem Xnf {c:UInt8} {w b:List UInt8} (h:V8 c=true) (hw: ∀x∈w,partB x=true) (hl:(c::w).length≤32) (hb: ∀d r,b=d::r→partB d=false):step (c::w++b)= .tok (c::w).length 1 (c::w) 0:=by
 have ht:(c::w++b).takeWhile partB=c::w:=Xne (fun x hx=>by
   rcases List.mem_cons.1 hx with rfl|hx
   · exact Td h
   · exact hw x hx) hb
 obtain ⟨h1,-,-,h4,-,-⟩:=(Tx c).1 h
 rw [List.cons_append,T7,if_neg (by simp [h1]),if_neg (by simp [h4]),if_pos h,←List.cons_append,ht,if_pos hl]
theorem Xoy {c:UInt8} {w b:List UInt8} (h:digitB c=true) (hw: ∀x∈w,digitB x=true) (hn:Xib (c::w)=true) (hb: ∀d r,b=d::r→digitB d=false):step (c::w++b)= .tok (c::w).length 2 [] (Rv (c::w)):=by
 have ht:(c::w++b).takeWhile digitB=c::w:=Xne (fun x hx=>by
   rcases List.mem_cons.1 hx with rfl|hx
   · exact h
   · exact hw x hx) hb
 obtain ⟨h1,h2,-,h4,-,-⟩:=(Tx c).2.1 h
 rw [List.cons_append,T7,if_neg (by simp [h1]),if_neg (by simp [h4]),if_neg (by simp [h2]),if_pos h,←List.cons_append,ht,if_pos hn]
theorem Xgr {c:UInt8} {b:List UInt8} (h:Su c=true) (hb:c=47→b.head?≠some 47):step (c::b)= .tok 1 3 [c] 0:=by
 obtain ⟨h1,h2,h3,-,-⟩:=(Tx c).2.2.1 h
 rw [T7,if_neg (by simp [h1]),if_neg (fun e=>hb e.1 e.2),if_neg (by simp [h2]),if_neg (by simp [h3]),if_pos h]
inductive StepIs (c:UInt8) (s:List UInt8):St→Prop
 | space (h:spaceB c=true):StepIs c s (.skip 1)
 | comment (h:c=47) (h2:s.head?=some 47):StepIs c s (.skip ((c::s).takeWhile lineB).length)
 | name (h:V8 c=true) (hl:((c::s).takeWhile partB).length≤32):StepIs c s (.tok ((c::s).takeWhile partB).length 1 ((c::s).takeWhile partB) 0)
 | num (h:digitB c=true) (hn:Xib ((c::s).takeWhile digitB)=true):StepIs c s (.tok ((c::s).takeWhile digitB).length 2 [] (Rv ((c::s).takeWhile digitB)))
 | sign (h:Su c=true) (h2:c=47→s.head?≠some 47):StepIs c s (.tok 1 3 [c] 0)
 | badName (h:V8 c=true) (hl:32<((c::s).takeWhile partB).length):StepIs c s .bad
 | badNum (h:digitB c=true) (hn:Xib ((c::s).takeWhile digitB)=false):StepIs c s .bad
 | other (h1:spaceB c=false) (h2:V8 c=false) (h3:digitB c=false) (h4:Su c=false):StepIs c s .bad
theorem sign47:Su 47=true:=by decide
theorem Xid (c:UInt8) (s:List UInt8):StepIs c s (step (c::s)):=by
 rw [T7]
 by_cases h1:spaceB c=true
 · rw [if_pos h1];exact .space h1
 rw [if_neg h1]
 by_cases h2:c=47∧s.head?=some 47
 · rw [if_pos h2];exact .comment h2.1 h2.2
 rw [if_neg h2]
 by_cases h3:V8 c=true
 · rw [if_pos h3]
   by_cases hl:((c::s).takeWhile partB).length≤32
   · rw [if_pos hl];exact .name h3 hl
   · rw [if_neg hl];exact .badName h3 Yan
 rw [if_neg h3]
 by_cases h4:digitB c=true
 · rw [if_pos h4]
   by_cases hn:Xib ((c::s).takeWhile digitB)=true
   · rw [if_pos hn];exact .num h4 hn
   · rw [if_neg hn];exact .badNum h4 (by simpa using hn)
 rw [if_neg h4]
 by_cases h5:Su c=true
 · rw [if_pos h5];exact .sign h5 fun e e2=>h2 ⟨e,e2⟩
 · rw [if_neg h5];exact .other (by simpa using h1) (by simpa using h3) (by simpa using h4) (by simpa using h5)
theorem Xb7 {p:UInt8→Bool} {c:UInt8} {s:List UInt8} (h:p c=true):1≤((c::s).takeWhile p).length:=by
 rw [List.takeWhile_cons,if_pos h,List.length_cons];omega
theorem Q3 (c:UInt8) (s:List UInt8) (h:step (c::s)≠ .bad):1≤(step (c::s)).len∧(step (c::s)).len≤(c::s).length:=by
 have hs:=Xid c s
 generalize step (c::s)=r at hs h ⊢
 cases hs with
 | space _=>exact ⟨Nat.le_refl _,by show 1≤_;simp⟩
 | comment h1 _=>exact ⟨Xb7 (by subst h1;decide),Xac _⟩
 | name h1 _=>exact ⟨Xb7 (Td h1),Xac _⟩
 | num h1 _=>exact ⟨Xb7 h1,Xac _⟩
 | sign _ _=>exact ⟨Nat.le_refl _,by show 1≤_;simp⟩
 | badName _ _=>exact absurd rfl h
 | badNum _ _=>exact absurd rfl h
 | other _ _ _ _=>exact absurd rfl h
theorem lexG_fuel: ∀(f g p:Nat) (s:List UInt8),s.length≤f→s.length≤g→lexG f p s=lexG g p s
 | 0,0,_,[],_,_=>rfl
 | 0,_+1,_,[],_,_=>rfl
 | _+1,0,_,[],_,_=>rfl
 | _+1,_+1,_,[],_,_=>rfl
 | 0,_,_,_::_,h,_=>absurd h Ybn
 | _+1,0,_,_::_,_,h=>absurd h Ybn
 | f+1,g+1,p,c::s,hf,hg=>by
   have hl:=Q3 c s
   unfold lexG
   cases hr:step (c::s) with
   | bad=>rfl
   | skip n=>
     rw [hr] at hl
     have:=hl Ybn
     simp only [St.len,List.length_cons] at this hf hg
     exact lexG_fuel f g _ _ Yci Yci
   | tok n k t v=>
     rw [hr] at hl
     have:=hl Ybn
     simp only [St.len,List.length_cons] at this hf hg
     show Except.map _ _=Except.map _ _
     rw [lexG_fuel f g _ _ Yci Yci]
theorem Xco (p:Nat):Sb p []= .ok []:=rfl
theorem Xff {p:Nat} {c:UInt8} {s:List UInt8} (h:step (c::s)= .bad):Sb p (c::s)= .error p:=by
 unfold Sb;rw [List.length_cons,lexG,h]
theorem Xba {p n:Nat} {c:UInt8} {s:List UInt8} (h:step (c::s)= .skip n):Sb p (c::s)=Sb (p+n) ((c::s).drop n):=by
 have hl:=Q3 c s (by rw [h];simp)
 rw [h] at hl
 simp only [St.len,List.length_cons] at hl
 unfold Sb
 rw [List.length_cons,lexG,h]
 exact lexG_fuel _ _ _ _ Yci (Nat.le_refl _)
theorem Xcp {p n:Nat} {k v:Int} {t:List UInt8} {c:UInt8} {s:List UInt8} (h:step (c::s)= .tok n k t v):Sb p (c::s)=(Sb (p+n) ((c::s).drop n)).map (⟨k,t,v,p⟩:: ·):=by
 have hl:=Q3 c s (by rw [h];simp)
 rw [h] at hl
 simp only [St.len,List.length_cons] at hl
 unfold Sb
 rw [List.length_cons,lexG,h]
 show Except.map _ _=_
 rw [lexG_fuel _ _ _ _ Yci (Nat.le_refl _)]
theorem Xng {P:Nat→List UInt8→Prop} (h0: ∀p,P p []) (h: ∀p c s,(step (c::s)≠ .bad→P (p+(step (c::s)).len) ((c::s).drop (step (c::s)).len))→P p (c::s)): ∀p s,P p s:=by
 have key: ∀m s,s.length≤m→ ∀p,P p s:=by
   intro m
   induction m with
   | zero=>
     intro s hs p
     cases s with
     | nil=>exact h0 p
     | cons c s=>simp at hs
   | succ m ih=>
     intro s hs p
     cases s with
     | nil=>exact h0 p
     | cons c s=>
       refine h p c s fun hb=>ih _ ?_ _
       have:=Q3 c s hb
       rw [List.length_drop];simp only [List.length_cons] at hs ⊢;omega
 exact fun p s=>key s.length s (Nat.le_refl _) p
end Go.Lx
namespace Go.Lx
def decF:Nat→List UInt8
 | n=>if h:n<10 then [UInt8.ofNat (48+n)] else decF (n / 10)++[UInt8.ofNat (48+n % 10)]
decreasing_by omega
theorem Te {n:Nat} (h:n<10):decF n=[UInt8.ofNat (48+n)]:=by rw [decF,dif_pos h]
theorem R8 {n:Nat} (h: ¬n<10):decF n=decF (n / 10)++[UInt8.ofNat (48+n % 10)]:=by rw [decF,dif_neg h]
theorem Xfg {d:Nat} (h:d<10):(UInt8.ofNat (48+d)).toNat=48+d:=by
 rw [UInt8.toNat_ofNat'];omega
theorem Xgs {d:Nat} (h:d<10):digitB (UInt8.ofNat (48+d))=true:=by
 unfold digitB inR;rw [Xfg h];exact decide_eq_true ⟨by omega,by omega⟩
theorem Xbb {P:Nat→Prop} (h0: ∀n,n<10→P n) (h: ∀n,¬n<10→P (n / 10)→P n): ∀n,P n:=by
 intro n
 induction n using Nat.strongRecOn with
 | _ n ih=>
   by_cases hn:n<10
   · exact h0 n hn
   · exact h n hn (ih _ Yan)
theorem decF_digits: ∀n,∀c∈decF n,digitB c=true:=by
 refine Xbb (fun n h c hc=>?_) fun n h ih c hc=>?_
 · rw [Te h,List.mem_singleton] at hc;subst hc;exact Xgs h
 · rw [R8 h,List.mem_append,List.mem_singleton] at hc
   rcases hc with hc|rfl
   · exact ih c hc
   · exact Xgs Yan
theorem Xnh (n:Nat):decF n≠[]:=by
 by_cases h:n<10
 · rw [Te h];simp
 · rw [R8 h];simp
theorem Xgt (s:List UInt8) (c:UInt8):Rv (s++[c])=10 * Rv s+(c.toNat-48):=by
 unfold Rv;rw [List.foldl_append];rfl
theorem decF_val: ∀n,Rv (decF n)=n:=by
 refine Xbb (fun n h=>?_) fun n h ih=>?_
 · rw [Te h];show 10 * 0+((UInt8.ofNat (48+n)).toNat-48)=n;rw [Xfg h];omega
 · rw [R8 h,Xgt,ih,Xfg Yan];omega
theorem decF_head: ∀n,1≤n→(decF n).head?≠some 48:=by
 refine Xbb (fun n h hn=>?_) fun n h ih _=>?_
 · rw [Te h]
   intro e
   have e2:UInt8.ofNat (48+n)=48:=by simpa using e
   have:=congrArg UInt8.toNat e2
   rw [Xfg h] at this
   have:48+n=48:=this
   omega
 · rw [R8 h]
   cases hd:decF (n / 10) with
   | nil=>exact absurd hd (Xnh _)
   | cons c r=>
     rw [List.cons_append,List.head?_cons]
     have:=ih Yan
     rw [hd,List.head?_cons] at this
     exact this
theorem Xni {n:Nat} (h:n≤1099511627776):Xib (decF n)=true:=by
 unfold Xib
 rw [decF_val,decide_eq_true h,Bool.true_and,Bool.or_eq_true,decide_eq_true_iff,decide_eq_true_iff]
 by_cases hn:n=0
 · left;subst hn;rw [Te Yan];rfl
 · right;exact decF_head n Yan
theorem Xoz {c:UInt8} {s:List UInt8} (h:c≠48) (hc:digitB c=true):1≤Rv (c::s):=by
 have key: ∀(s:List UInt8) (n:Nat),1≤n→1≤s.foldl (fun n c=>10 * n+(c.toNat-48)) n:=by
   intro s
   induction s with
   | nil=>intro n h;exact h
   | cons d s ih=>intro n hn;exact ih (10 * n+(d.toNat-48)) Yan
 unfold digitB inR at hc
 have hc:=of_decide_eq_true hc
 have:c.toNat≠48:=fun e=>h (by have:=congrArg UInt8.ofNat e;rwa [UInt8.ofNat_toNat] at this)
 refine key s _ ?_
 show 1≤10 * 0+(c.toNat-48)
 omega
theorem Xjg {c:UInt8} (h:digitB c=true):UInt8.ofNat (48+(c.toNat-48))=c:=by
 unfold digitB inR at h
 have h:=of_decide_eq_true h
 rw [show 48+(c.toNat-48)=c.toNat by omega,UInt8.ofNat_toNat]
theorem val_dec: ∀(s:List UInt8),(∀c∈s,digitB c=true)→s≠[]→(s.length=1∨s.head?≠some 48)→decF (Rv s)=s:=by
 intro s
 induction hm:s.length using Nat.strongRecOn generalizing s with
 | _ m ih=>
   intro hd hne hz
   obtain ⟨a,c,rfl⟩: ∃a c,s=a++[c]:=⟨s.dropLast,s.getLast hne,(List.dropLast_concat_getLast hne).symm⟩
   have hc:=hd c Ybn
   have hc2:=hc
   unfold digitB inR at hc2
   have hc2:=of_decide_eq_true hc2
   rw [Xgt]
   by_cases ha:a=[]
   · subst ha
     show decF (10 * 0+(c.toNat-48))=[c]
     rw [Te Yan,Nat.mul_zero,Nat.zero_add,Xjg hc]
   · have hda: ∀x∈a,digitB x=true:=fun x hx=>hd x (List.mem_append_left _ hx)
     cases a with
     | nil=>exact absurd rfl ha
     | cons x r=>
       have hx:x≠48:=by
         rcases hz with h|h
         · have hm2:=hm;simp at hm2;omega
         · intro e;subst e;exact h rfl
       have hv:=Xoz (s:=r) hx (hda x Ybn)
       have:=ih _ (by rw [←hm];simp) (x::r) rfl hda Ybn (.inr (by simpa using hx))
       rw [R8 Yan,show (10 * Rv (x::r)+(c.toNat-48)) / 10=Rv (x::r) by omega,this,show (10 * Rv (x::r)+(c.toNat-48)) % 10=c.toNat-48 by omega,Xjg hc]
def V7 (t:TokD):Bool:=
 if t.kind=1 then Xbv t.text&&decide (t.n=0)
 else if t.kind=2 then decide (t.text=[])&&decide (0≤t.n∧t.n≤1099511627776)
 else if t.kind=3 then decide (t.text.length=1)&&(((t.text.head?).map Su).getD false&&decide (t.n=0))
 else false
def word (t:TokD):List UInt8:=if t.kind=2 then decF t.n.toNat else t.text
def joinF:List (List UInt8)→List UInt8
 | []=>[]
 | [w]=>w
 | w::l=>w++32::joinF l
theorem Xee (w v:List UInt8) (l:List (List UInt8)):joinF (w::v::l)=w++32::joinF (v::l):=rfl
def Ends (b:List UInt8):Prop:= ∀d r,b=d::r→d=32
theorem Ends.part {b:List UInt8} (h:Ends b): ∀d r,b=d::r→partB d=false:=fun d r e=>by rw [h d r e];decide
theorem Ends.digit {b:List UInt8} (h:Ends b): ∀d r,b=d::r→digitB d=false:=fun d r e=>by rw [h d r e];decide
theorem Ends.slash {b:List UInt8} (h:Ends b):b.head?≠some 47:=by
 cases b with
 | nil=>simp
 | cons d r=>rw [h d r rfl,List.head?_cons];decide
theorem Xrm {s:List UInt8}:Xbv s=true↔ ∃c w,s=c::w∧s.length≤32∧V8 c=true∧ ∀x∈w,partB x=true:=by
 unfold Xbv
 cases s with
 | nil=>simp
 | cons c w=>
   rw [Bool.and_eq_true,Bool.and_eq_true,decide_eq_true_iff,List.all_eq_true]
   constructor
   · rintro ⟨⟨-,h2⟩,h3,h4⟩
     exact ⟨c,w,rfl,h2,h3,fun x hx=>h4 x (List.mem_cons_of_mem _ hx)⟩
   · rintro ⟨c',w',e,h2,h3,h4⟩
     injection e with e1 e2
     subst e1;subst e2
     refine ⟨⟨by simp,h2⟩,h3,fun x hx=>?_⟩
     rcases List.mem_cons.1 hx with rfl|hx
     · exact Td h3
     · exact h4 x hx
theorem Xgu {t:TokD} (h:V7 t=true) {b:List UInt8} (hb:Ends b): ∃c w,word t=c::w∧step (word t++b)= .tok (word t).length t.kind t.text t.n:=by
 obtain ⟨k,s,n,a⟩:=t
 unfold V7 at h
 simp only at h
 unfold word
 simp only
 by_cases h1:k=1
 · subst h1
   rw [if_pos rfl,Bool.and_eq_true,decide_eq_true_iff] at h
   obtain ⟨hn,rfl⟩:=h
   obtain ⟨c,w,rfl,hl,hc,hw⟩:=Xrm.1 hn
   rw [if_neg Yar]
   exact ⟨c,w,rfl,Xnf hc hw hl hb.part⟩
 rw [if_neg h1] at h
 by_cases h2:k=2
 · subst h2
   rw [if_pos rfl,Bool.and_eq_true,decide_eq_true_iff,decide_eq_true_iff] at h
   obtain ⟨rfl,h3,h4⟩:=h
   rw [if_pos rfl]
   cases hd:decF n.toNat with
   | nil=>exact absurd hd (Xnh _)
   | cons c w=>
     have hdg:=decF_digits n.toNat
     rw [hd] at hdg
     have hnb:=Xni (n:=n.toNat) Yan
     rw [hd] at hnb
     have hst:=Xoy (b:=b) (hdg c Ybn) (fun x hx=>hdg x (List.mem_cons_of_mem _ hx)) hnb hb.digit
     rw [←hd,decF_val,hd,Int.toNat_of_nonneg h3] at hst
     exact ⟨c,w,rfl,hst⟩
 rw [if_neg h2] at h
 by_cases h3:k=3
 · subst h3
   rw [if_pos rfl,Bool.and_eq_true,Bool.and_eq_true,decide_eq_true_iff,decide_eq_true_iff] at h
   obtain ⟨hl,hc,rfl⟩:=h
   match s,hl with
   | [c],_=>
     rw [if_neg Yar]
     exact ⟨c,[],rfl,Xgr hc fun _=>hb.slash⟩
 rw [if_neg h3] at h;cases h
theorem Xjh {t:TokD} (h:V7 t=true) {b:List UInt8} (hb:Ends b) (p:Nat):Sb p (word t++b)=(Sb (p+(word t).length) b).map (⟨t.kind,t.text,t.n,p⟩:: ·):=by
 obtain ⟨c,w,hw,hs⟩:=Xgu h hb
 rw [hw,List.cons_append] at hs ⊢
 rw [Xcp hs]
 rw [←List.cons_append,List.drop_left]
theorem Xnj {c:UInt8} (h:spaceB c=true) (p:Nat) (b:List UInt8):Sb p (c::b)=Sb (p+1) b:=by
 rw [Xba (Xbw h b)];rfl
theorem lex_valid: ∀(p:Nat) (s:List UInt8) (l:List TokD),Sb p s= .ok l→ ∀t∈l,V7 t=true:=by
 refine Xng (fun p l h t ht=>?_) fun p c s ih l h=>?_
 · rw [Xco] at h;injection h with h;subst h;cases ht
 · have hi:=Xid c s
   cases hr:step (c::s) with
   | bad=>rw [Xff hr] at h;cases h
   | skip n=>rw [hr] at ih;rw [Xba hr] at h;exact ih Ybn l h
   | tok n k t v=>
     rw [hr] at ih hi
     rw [Xcp hr] at h
     have ih:=ih Ybn
     simp only [St.len] at ih
     cases he:Sb (p+n) ((c::s).drop n) with
     | error q=>rw [he] at h;cases h
     | ok m=>
       rw [he] at h ih
       injection h with h
       subst h
       intro x hx
       rcases List.mem_cons.1 hx with rfl|hx
       · unfold V7
         cases hi with
         | name h1 h2=>
           rw [if_pos rfl,Bool.and_eq_true]
           refine ⟨Xrm.2 ?_,rfl⟩
           rw [List.takeWhile_cons,if_pos (Td h1)] at h2 ⊢
           exact ⟨c,_,rfl,h2,h1,Xdd⟩
         | num h1 h2=>
           unfold Xib at h2
           rw [Bool.and_eq_true,decide_eq_true_iff] at h2
           have h3:=h2.1
           simp;omega
         | sign h1 h2=>
           simp [h1]
       · exact ih m rfl x hx
end Go.Lx
namespace Go.Lx
end Go.Lx
namespace Go.Lx
def Xpj (cm:Bool) (c:UInt8) (s:List UInt8):Bool:=lineB c&&(cm||decide (c=47∧s.head?=some 47))
def gapF:Bool→List UInt8→Option Bool
 | cm,[]=>some cm
 | cm,c::s=>if !Xpj cm c s&& !spaceB c then none else gapF (Xpj cm c s) s
def placesF:Nat→Bool→List UInt8→List TokD→Prop
 | _,cm,s,[]=> ∃b,gapF cm s=some b
 | p,cm,s,t::l=> ∃a:Nat,t.at_=((p+a:Nat):Int)∧a≤s.length∧gapF cm (s.take a)=some false∧word t≠[]∧(∃r,s.drop a=word t++r∧placesF (p+a+(word t).length) false r l)
theorem Xo0 {c:UInt8} (s:List UInt8) {cm:Bool} (hs:spaceB c=true) (hc:cm=true→c=10):gapF cm (c::s)=gapF false s:=by
 have h0:c≠47:=((Tx c).2.2.2 hs).2.2.2.2
 have:Xpj cm c s=false:=by
   unfold Xpj
   cases cm with
   | false=>rw [decide_eq_false (fun e=>h0 e.1)];simp
   | true=>rw [hc rfl];rfl
 rw [gapF,this,hs];rfl
theorem gap_in: ∀(w b:List UInt8),(∀x∈w,lineB x=true)→gapF true (w++b)=gapF true b
 | [],_,_=>rfl
 | c::w,b,h=>by
   have hc:=h c Ybn
   rw [List.cons_append,gapF]
   have:Xpj true c (w++b)=true:=by unfold Xpj;rw [hc];rfl
   rw [this]
   exact gap_in w b fun x hx=>h x (List.mem_cons_of_mem _ hx)
theorem Xqn (w b:List UInt8) (h: ∀x∈w,lineB x=true) (cm:Bool):gapF cm (47::47::w++b)=gapF true b:=by
 have:Xpj cm 47 (47::(w++b))=true:=by unfold Xpj;cases cm<;>rfl
 rw [List.cons_append,List.cons_append,gapF,this]
 have:=gap_in (47::w) b fun x hx=>by
   rcases List.mem_cons.1 hx with rfl|hx
   · decide
   · exact h x hx
 rw [List.cons_append] at this
 exact this
theorem Xb8 {n:Nat} {cm cm':Bool} {a s:List UInt8} (hn:a.length=n) (h: ∀b,gapF cm (a++b)=gapF cm' b): ∀{p:Nat} {l:List TokD},placesF (p+n) cm' s l→placesF p cm (a++s) l
 | p,[],⟨b,hb⟩=>⟨b,by rw [h];exact hb⟩
 | p,t::l,⟨m,h1,h2,h3,h4,r,h5,h6⟩=>by
   refine ⟨n+m,by rw [h1,Nat.add_assoc],by rw [List.length_append];omega,?_,h4,r,?_,?_⟩
   · rw [List.take_append,List.take_of_length_le Yan,h,show n+m-a.length=m by omega];exact h3
   · rw [List.drop_append,List.drop_eq_nil_of_le Yan,show n+m-a.length=m by omega];exact h5
   · rw [show p+(n+m)=p+n+m by omega];exact h6
theorem lex_places: ∀(p:Nat) (s:List UInt8) (l:List TokD) (cm:Bool),Sb p s= .ok l→(cm=true→s=[]∨ ∃r,s=10::r)→placesF p cm s l:=by
 refine Xng (fun p l cm h _=>?_) fun p c s ih l cm h hcm=>?_
 · rw [Xco] at h;injection h with h;subst h;exact ⟨cm,rfl⟩
 · have hi:=Xid c s
   cases hr:step (c::s) with
   | bad=>rw [Xff hr] at h;cases h
   | skip n=>
     rw [hr] at ih hi
     rw [Xba hr] at h
     have ih:=ih Ybn
     simp only [St.len] at ih
     cases hi with
     | space hs=>
       refine Xb8 (a:=[c]) (s:=s) (cm':=false) rfl (fun b=>Xo0 b hs fun e=>?_) (ih l false h fun e=>by cases e)
       rcases hcm e with h2|⟨r,h2⟩
       · cases h2
       · injection h2
     | comment h1 h2=>
       subst h1
       obtain ⟨s',rfl⟩: ∃s',s=47::s':=by
         cases s with
         | nil=>cases h2
         | cons d s'=>exact ⟨s',by rw [show d=47 by simpa using h2]⟩
       have hcf:cm=false:=by
         cases cm with
         | false=>rfl
         | true=>
           rcases hcm rfl with h3|⟨r,h3⟩
           · cases h3
           · injection h3 with h4 _;cases h4
       subst hcf
       have ht:((47:UInt8)::47::s').takeWhile lineB=47::47::s'.takeWhile lineB:=by
         rw [List.takeWhile_cons,if_pos Yar,List.takeWhile_cons,if_pos Yar]
       have hsp:(47:UInt8)::47::s'=(47::47::s').takeWhile lineB++(47::47::s').drop ((47::47::s').takeWhile lineB).length:=by
         conv=>lhs;rw [←List.take_append_drop ((47::47::s').takeWhile lineB).length (47::47::s'),Xal]
       rw [hsp]
       refine Xb8 (cm':=true) rfl (fun b=>?_) (ih l true h fun _=>?_)
       · rw [ht];exact Xqn _ b Xdd false
       · cases hd:(47::47::s').drop ((47::47::s').takeWhile lineB).length with
         | nil=>exact .inl rfl
         | cons d r=>
           have:=Xic d r hd
           unfold lineB at this
           rw [decide_eq_false_iff_not] at this
           right
           exact ⟨r,by rw [show d=10 from Classical.byContradiction fun e=>this e]⟩
   | tok n k t v=>
     rw [hr] at ih hi
     rw [Xcp hr] at h
     have ih:=ih Ybn
     simp only [St.len] at ih
     have hcf:cm=false:=by
       cases cm with
       | false=>rfl
       | true=>
         rcases hcm rfl with h3|⟨r,h3⟩
         · cases h3
         · injection h3 with h4 _
           subst h4
           rw [Xbw Yar] at hr;cases hr
     subst hcf
     cases he:Sb (p+n) ((c::s).drop n) with
     | error q=>rw [he] at h;cases h
     | ok m=>
       rw [he] at h
       injection h with h
       subst h
       have ih:=ih m false he fun e=>by cases e
       have hw:word ⟨k,t,v,p⟩=(c::s).take n∧n=((c::s).take n).length:=by
         have hl:=Q3 c s (by rw [hr];simp)
         rw [hr] at hl
         simp only [St.len] at hl
         refine ⟨?_,by rw [List.length_take];omega⟩
         unfold word
         cases hi with
         | name h1 h2=>rw [if_neg (show ¬(1:Int)=2 by decide),Xal]
         | num h1 h2=>
           rw [if_pos rfl,Xal]
           show decF ((Rv ((c::s).takeWhile digitB):Nat):Int).toNat=_
           rw [Int.toNat_natCast]
           unfold Xib at h2
           rw [Bool.and_eq_true,Bool.or_eq_true,decide_eq_true_iff,decide_eq_true_iff,decide_eq_true_iff] at h2
           refine val_dec _ Xdd (fun e=>?_) h2.2
           have:=Xb7 (s:=s) h1
           rw [e] at this;simp at this
         | sign h1 h2=>rw [if_neg (show ¬(3:Int)=2 by decide)];rfl
       have hl:=Q3 c s (by rw [hr];simp)
       rw [hr] at hl
       simp only [St.len] at hl
       refine ⟨0,by simp,Nat.zero_le _,rfl,?_,(c::s).drop n,?_,?_⟩
       · rw [hw.1];intro e
         have:=hw.2
         rw [e] at this;simp at this;omega
       · show (c::s).drop 0=_
         rw [hw.1,List.drop_zero,List.take_append_drop]
       · rw [hw.1,←hw.2,Nat.add_zero];exact ih
end Go.Lx
namespace Go.Lx
def Xqo (s:List UInt8):List TokD×Int×Int:=if 65536<s.length then ([],0,2) else match Sb 0 s with
 | .ok l=>(l,0,0)
 | .error p=>([],p,30)
def Xdq (l:List TokD):List UInt8×Int:=if l.all V7 then (joinF (l.map word),0) else ([],30)
theorem Xkq (s:List UInt8) (h:s.length≤65536):(∃l,Sb 0 s= .ok l∧Xqo s=(l,0,0))∨ ∃p,Sb 0 s= .error p∧Xqo s=([],(p:Int),30):=by
 unfold Xqo
 rw [if_neg Yan]
 cases hl:Sb 0 s with
 | ok l=>exact .inl ⟨l,rfl,rfl⟩
 | error p=>exact .inr ⟨p,rfl,rfl⟩
theorem lex_len: ∀(p:Nat) (s:List UInt8) (l:List TokD),Sb p s= .ok l→(l.map fun t=>(word t).length).sum≤s.length:=by
 intro p s l h
 have hp:=lex_places p s l false h fun e=>by cases e
 clear h
 have key: ∀(l:List TokD) (p:Nat) (cm:Bool) (s:List UInt8),placesF p cm s l→(l.map fun t=>(word t).length).sum≤s.length:=by
   intro l
   induction l with
   | nil=>intro p cm s _;exact Nat.zero_le _
   | cons t l ih=>
     intro p cm s h
     obtain ⟨a,_,h2,_,_,r,h5,h6⟩:=h
     have:=ih _ _ _ h6
     have hl:=congrArg List.length h5
     rw [List.length_drop,List.length_append] at hl
     rw [List.map_cons,List.sum_cons]
     omega
 exact key l p false s hp
end Go.Lx
namespace Go.Lx
structure Run (p:UInt8→Bool) (s:List UInt8) (i L:Nat):Prop where
 le:i+L≤s.length
 in_: ∀j,(h:j<s.length)→i≤j→j<i+L→p s[j]=true
 out_:(h:i+L<s.length)→p s[i+L]=false
 sub:(s.take (i+L)).drop i=(s.drop i).takeWhile p
theorem Xpk (p:UInt8→Bool) (s:List UInt8) (i:Nat) (hi:i≤s.length):Run p s i ((s.drop i).takeWhile p).length:=by
 have hl:=Xac (p:=p) (s.drop i)
 rw [List.length_drop] at hl
 have hsub:(s.take (i+((s.drop i).takeWhile p).length)).drop i=(s.drop i).takeWhile p:=by
   rw [←Xal (p:=p) (s.drop i),List.drop_take,Nat.add_sub_cancel_left,List.length_take,Xal,Nat.min_eq_left (Xac _)]
   exact Xal _
 refine ⟨by omega,fun j h h1 h2=>?_,fun h=>?_,hsub⟩
 · have hm:s[j]∈(s.drop i).takeWhile p:=by
     rw [←hsub]
     refine List.mem_iff_getElem.2 ⟨j-i,by rw [List.length_drop,List.length_take];omega,?_⟩
     rw [List.getElem_drop,List.getElem_take]
     congr 1;omega
   exact Xdd _ hm
 · refine Xic (s:=s.drop i) _ (s.drop (i+((s.drop i).takeWhile p).length+1)) ?_
   rw [List.drop_drop]
   exact List.drop_eq_getElem_cons h
theorem Xad {s:List UInt8} {i n:Nat} (hi:i<s.length) (h:step (s[i]::s.drop (i+1))= .skip n):Sb i (s.drop i)=Sb (i+n) (s.drop (i+n)):=by
 rw [List.drop_eq_getElem_cons hi,Xba h,←List.drop_eq_getElem_cons hi,List.drop_drop]
theorem R9 {s:List UInt8} {i n:Nat} {k v:Int} {t:List UInt8} (hi:i<s.length) (h:step (s[i]::s.drop (i+1))= .tok n k t v):Sb i (s.drop i)=(Sb (i+n) (s.drop (i+n))).map (⟨k,t,v,i⟩:: ·):=by
 rw [List.drop_eq_getElem_cons hi,Xcp h,←List.drop_eq_getElem_cons hi,List.drop_drop]
theorem Qa {s:List UInt8} {i:Nat} (hi:i<s.length) (h:step (s[i]::s.drop (i+1))= .bad):Sb i (s.drop i)= .error i:=by
 rw [List.drop_eq_getElem_cons hi,Xff h]
theorem Xie {e:Except Nat (List TokD)} {acc:List TokD} {t:TokD}:(e.map (t:: ·)).map (acc++ ·)=e.map ((acc++[t])++ ·):=by
 cases e with
 | error _=>rfl
 | ok l=>show Except.ok _=Except.ok _;simp
theorem Xji {c:UInt8} {r:List UInt8} (h:V8 c=true):Xbv ((c::r).takeWhile partB)=decide (((c::r).takeWhile partB).length≤32):=by
 have h1:(c::r).takeWhile partB=c::r.takeWhile partB:=by rw [List.takeWhile_cons,if_pos (Td h)]
 have h2:=Xdd (p:=partB) (s:=c::r)
 rw [h1] at h2 ⊢
 unfold Xbv
 rw [List.all_eq_true.2 h2]
 simp [h]
end Go.Lx
