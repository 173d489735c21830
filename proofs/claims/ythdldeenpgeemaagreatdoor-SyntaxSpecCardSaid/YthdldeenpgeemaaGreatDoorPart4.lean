/- Frame: the statement that ranges Xrz a function whose rounds may leave by return; code in a round's frame. No program in sight. -/
import Derived.Test.YthdldeenpgeemaaGreatDoorPart3
import Derived.Recover
namespace Go.Fr
open Go.RowKit Go.Kx
class CalmC (Fe:Fence):Prop where
 out:Calm Fe
instance:CalmC Fence.wide:=⟨.inl rfl⟩
instance {l:Nat}:CalmC (Fence.wide.inRound l):=⟨.inr ⟨l,rfl⟩⟩
section
variable {C:Cx} {Fe:Fence} {n:Nat} {ops:Array Oper} {Q:Post} {env:Env} {loc:List Ent}
end
def YieldS (P:Program) (l:Nat) (args:List SP) (A:List Ent→Prop) (B:Bool→List Ent→Prop):Prop:= ∀m F w vals inn out,A inn→Good F (inn++out) w→CellsR F w args vals→
 YieldAt Fence.wide m P l vals.toArray w (fun e w'=> ∃r,e= .returned (.bool r)∧ ∃F' loc',B r loc'∧Good F' (loc'++out) w'∧Ch (Rj inn) w w'∧(∀b,F b→b<w.heap.size→F' b)∧ ∀e∈loc',∀b∈e.foot,w.heap.size≤b∨Rj inn b)
theorem YieldS.mono {P:Program} {l:Nat} {args:List SP} {A:List Ent→Prop} {B B':Bool→List Ent→Prop} (h:YieldS P l args A B) (hb: ∀r loc,B r loc→B' r loc):YieldS P l args A B':=fun m F w vals inn out hA hG hc=>by
 obtain ⟨fn,tmps,assign,body,hy,hr⟩:=h m F w vals inn out hA hG hc
 exact ⟨fn,tmps,assign,body,hy,hr.mono fun e w' ⟨r,he,F',loc',hB,hx⟩=>⟨r,he,F',loc',hb r loc' hB,hx⟩⟩
theorem YieldS.args {P:Program} {l:Nat} {ps qs:List SP} {A:List Ent→Prop} {B:Bool→List Ent→Prop} (h:YieldS P l qs A B) (hi:Ims ps qs):YieldS P l ps A B:=fun m F w vals inn out hA hG hc=>h m F w vals inn out hA hG (hi.cells hc)
end Go.Fr
namespace Go.Fr
open Go.RowKit Go.Kx
section
variable {C:Cx} {Fe:Fence} {n:Nat} {ops:Array Oper} {Q:Post} {env:Env} {loc:List Ent}
end
theorem Xnm {C:Cx} {env:Env} {loc:List Ent} {t:Nat} {p q:SP} (ht:look t env=some p) (hi:Im p q):Leads C env loc ((t,q)::env) loc:=fun F a w hR=>⟨F,hR.good,fun t' p' hp=>by
   rw [Uf] at hp
   split at hp
   · rename_i e;cases hp;subst e;exact hi _ _ _ (hR.env _ _ ht)
   · exact hR.env t' p' hp,hR.size,hR.defers,hR.ch,hR.own,hR.grow⟩
theorem Vq {C:Cx} {env:Env} {loc:List Ent} {k b T tot t:Nat} {ps:List SP} (he:loc[k]?=some (row b T tot ps)) (ht:look t env=some (ex (.pointer (some ⟨b,0,none⟩)))):Leads C env loc ((t,fp ps)::(t,fpx b ps)::env) (loc.eraseIdx k):=(Xle he ht).trans (Xnm (by rw [Uf,if_pos rfl]) Xlf)
theorem Xog {k j:Nat} (h:k≤j) (l:List Ex):Im (exL k l) (exL j l):=by
 induction h with
 | refl=>exact Im.refl _
 | step _ ih=>exact fun F w v hv=>exL_mono _ l F w v (ih F w v hv)
theorem Tx {k j:Nat} (h:k≤j) (x:Ex):Ims (exV k x) (exV j x):= .cons (Im.refl _) (.cons (Im.refl _) (.cons (Im.refl _) (.cons (Im.refl _) (.cons (Xog h _) .nil))))
end Go.Fr
namespace Go.Fr
open Go.RowKit Go.Kx
section
variable {C:Cx} {H:Nat→Prop} {env:Env} {loc:List Ent} {dst:Option Tmp} {ty:TypeId} {pos:String} {af:Array Edge} {g:Option (Nat×Bool)}
end
abbrev Cx.withD (C:Cx) (d:Deferred):Cx:={ C with dfs:=d::C.dfs }
structure WPLR (C:Cx) (ops:Array Oper) (T:Exit→Act→World→Prop) (l:List Oper) (env:Env) (loc:List Ent):Prop where
 out: ∀F a w,Rel C F env loc a w→wpList C.P ops T l a w
theorem Xdu {C:Cx} {id:Nat} {l:List Oper} {y:Code} {T:Exit→Act→World→Prop} {env:Env} {loc:List Ent} (h:WPLR C l.toArray (Exit.then (y.wp C.P T) T) l env loc):WPR C (.seq (.region id l.toArray false) y) T env loc:=⟨fun F a w hR=>wp_seq (wp_region_lit (h.out F a w hR))⟩
theorem Xoh {C:Cx} {ops:Array Oper} {T:Exit→Act→World→Prop} {d:Nat} {op:Op} {ty:TypeId} {pos:String} {af:Array Edge} {rest:List Oper} {p:SP} {env:Env} {loc:List Ent} (h:WT C (Xc2 fun _=>True) ⟨some d,op,ty,pos,af,none⟩ p env loc) (hd:Nat.blt d C.N=true) (hk:WPLR C ops T rest ((d,p)::env) loc):WPLR C ops T (⟨some d,op,ty,pos,af,none⟩::rest) env loc:=by
 constructor
 intro F a w hR
 unfold wpList
 rw [if_pos (by simp [Region.wanted])]
 have hw:=(Tm (K:=fun env loc=>WPLR C ops T rest env loc) (H:=fun _=>False) h hd hk).out F a w hR
 refine .inl (Qw ?_ (fun _ _ _ hf=>hf.elim) hw)
 rintro a' w' ⟨F',env',loc',hR',_,_,_,hk⟩
 exact hk.out F' a' w' hR'
def Xqj (Q:Post):Post:=fun e env loc=>e= .normal∧Q .normal env loc
theorem Xho {C:Cx} {c:Code} {Q:Post} {env:Env} {loc:List Ent} (h:WP C c (Xqj Q) env loc):WP C c Q env loc:=by
 refine ⟨fun F a w hR=>Code.wp_mono ?_ (h.out F a w hR)⟩
 rintro e a' w' ⟨F',env',loc',hR',rfl,hq⟩
 exact ⟨F',env',loc',hR',hq⟩
theorem Xpg {Q:Post}: ∀c env loc,¬Xqj Q (.panic c) env loc:=fun _ _ _ h=>by cases h.1
theorem Xoi {C:Cx} {c:Code} {T:Exit→Act→World→Prop} {env:Env} {loc:List Ent} (h:WP C c (Xn5 C T) env loc):WPR C c T env loc:=by
 refine ⟨fun F a w hR=>Code.wp_mono ?_ (h.out F a w hR)⟩
 rintro e a' w' ⟨F',env',loc',hR',hq⟩
 exact hq F' a' w' hR'
end Go.Fr
namespace Go.Fr
open Go.RowKit Go.Kx
def Cx.marks (C:Cx):List Nat→Cx
 | []=>C
 | D::Ds=>(C.marks Ds).mark D
def roundT (C0:Cx) {α:Type} (I:α→Env×List Ent) (ok:α→Prop) (n:Nat) (μ:α→Nat) (T:Exit→Act→World→Prop):Exit→Act→World→Prop:=
 Exit.then (fun a' w'=> ∃Ds y F,(∀D∈Ds,C0.w0.heap.size≤D)∧ok y∧μ y<n∧Rel (C0.marks Ds) F (I y).1 (I y).2 a' w') T
end Go.Fr
namespace Go.Fr
open Go.RowKit Go.Kx
def FnP (P:Program) (f:FuncId) (args:List SP) (inn:List Ent) (R:SP→List Ent→Prop) (Rp:List PanicEntry→List Ent→Prop):Prop:=
 ∀(F:Nat→Prop) (w:World) (vals:List Value) (out:List Ent),Good F (inn++out) w→CellsR F w args vals→
   Calls P f vals.toArray w fun e w'=>(∃v F' p loc',e= .returned v∧R p loc'∧p.rel F' w' v∧Good F' (loc'++out) w'∧Ch (fun b=> ∃e∈inn,b∈e.foot) w w'∧(∀b,F b→b<w.heap.size→F' b)∧
     ∀e∈loc',∀b∈e.foot,w.heap.size≤b∨ ∃e∈inn,b∈e.foot)∨
   (∃ch F' loc',e= .panicked ch∧Rp ch loc'∧Good F' (loc'++out) w'∧Ch (fun b=> ∃e∈inn,b∈e.foot) w w'∧(∀b,F b→b<w.heap.size→F' b)∧
     ∀e∈loc',∀b∈e.foot,w.heap.size≤b∨ ∃e∈inn,b∈e.foot)
theorem FnC.toP {P:Program} {f:FuncId} {args:List SP} {inn:List Ent} {R:SP→List Ent→Prop} (Rp:List PanicEntry→List Ent→Prop) (h:FnC P f args inn R):FnP P f args inn R Rp:=
 fun F w vals out hG hA=>(h F w vals out hG hA).mono fun _ _ hx=> .inl hx
def Xqk (C:Cx) (fn:Func) (R:SP→List Ent→Prop) (Rp:List PanicEntry→List Ent→Prop):Post
 | .normal,env,loc=>Xmp C fn R .normal env loc
 | .ret,env,loc=>Xmp C fn R .ret env loc
 | .panic ch,env,loc=> ∀F a w,Rel C F env loc a w→ ∃F' loc',Rp ch loc'∧Good F' (loc'++C.out) w∧(∀b,C.F0 b→b<C.w0.heap.size→F' b)∧ ∀e∈loc',∀b∈e.foot,C.w0.heap.size≤b∨C.X b
 | _,_,_=>False
theorem X2 {C:Cx} {fn:Func} {R:SP→List Ent→Prop} {Rp:List PanicEntry→List Ent→Prop} {ch:List PanicEntry} {env:Env} {loc loc':List Ent} (hs:loc'.Sublist loc) (h:Rp ch loc'):Xqk C fn R Rp (.panic ch) env loc:=
 fun F _ _ hR=>⟨F,loc',h,hR.good.drop hs,hR.grow,fun e he=>hR.own e (hs.subset he)⟩
theorem Wx {P:Program} {f:FuncId} {fn:Func} {c:Code} {args:List SP} {inn:List Ent} {R:SP→List Ent→Prop} {Rp:List PanicEntry→List Ent→Prop} {N:Nat} (hf:P.funcs[f]?=some fn) (hb:fn.body=some c) (hN:fn.ntmps=N) (hle:Nat.ble args.length N=true)
   (h: ∀w0 F0 out,WP ⟨P,w0,F0,Rj inn,out,N,[]⟩ c (Xqk ⟨P,w0,F0,Rj inn,out,N,[]⟩ fn R Rp) (Xbu 0 args) inn):FnP P f args inn R Rp:=by
 intro F w vals out hG hA
 have hle':args.length≤N:=Nat.le_of_ble_eq_true hle
 have hsz:vals.length=args.length:=hA.len
 refine calls_of_wp hf hb (Code.wp_mono ?_ ((h w F out).out F _ w ⟨hG,?_,?_,rfl,Ch.refl _ _,fun e he b hb=> .inr ⟨e,he,hb⟩,fun b hb _=>hb⟩))
 · rintro e a' w' ⟨F',env',loc',hR',hq⟩
   cases e with
   | normal=>
     obtain ⟨F2,v,p,loc2,h1,h2,h3,h4,h5,h6⟩:=hq.2 F' a' w' hR'
     exact bodyPost_end h1 hR'.defers (.inl ⟨v,F2,p,loc2,rfl,h2,h3,h4,hR'.ch,h5,h6⟩)
   | ret=>
     obtain ⟨F2,v,p,loc2,h1,h2,h3,h4,h5,h6⟩:=hq.2 F' a' w' hR'
     exact bodyPost_ret h1 hR'.defers (.inl ⟨v,F2,p,loc2,rfl,h2,h3,h4,hR'.ch,h5,h6⟩)
   | panic ch=>
     obtain ⟨F2,loc2,h2,h4,h5,h6⟩:=hq F' a' w' hR'
     exact ⟨hR'.defers,.inr ⟨ch,F2,loc2,rfl,h2,h4,hR'.ch,h5,h6⟩⟩
   | exit _=>exact hq.elim
   | goto _=>exact hq.elim
   | outgrown=>exact hq.elim
 · intro t p hp
   obtain ⟨j,rfl,hj⟩:=S3 hp
   obtain ⟨v,hv,hr⟩:=hA.at_ j p hj
   have hlt:j<vals.length:=(List.getElem?_eq_some_iff.1 hv).1
   have hx:(vals.toArray++Array.replicate (fn.ntmps-vals.toArray.size) undef).getD (0+j) undef=v:=by
     rw [Nat.zero_add,Array.getD_eq_getD_getElem?,Array.getElem?_append_left (by simpa using hlt)]
     simp [hv]
   rw [hx];exact hr
 · rw [hN];simp;omega
section
variable {C:Cx} {env:Env} {loc:List Ent} {d:Nat} {ty:TypeId} {pos:String} {af:Array Edge} {ops:Array Oper} {Q:Post} {rest:List Oper}
theorem Rel.panicG {F F':Nat→Prop} {a:Act} {w w':World} {inn suf:List Ent} {loc':List Ent} (hR:Rel C F env loc a w) (ht:Takes loc inn suf) (hG:Good F' (loc'++(suf++C.out)) w') (hch:Ch (fun b=> ∃e'∈inn,b∈e'.foot) w w') (hgr: ∀b,F b→b<w.heap.size→F' b)
   (hown: ∀e'∈loc',∀b∈e'.foot,w.heap.size≤b∨ ∃e'∈inn,b∈e'.foot):Rel C F' env (loc'++suf) a w':=by
 have hblk: ∀b,b<w.heap.size→(∀e∈inn,b∉e.foot)→w'.heap[b]?=w.heap[b]?:=fun b hb hn=>hch.block b hb (by rintro ⟨e',he',h⟩;exact hn e' he' h)
 have hG0:=ht.good hR.good
 have hm: ∀b,F b→b<w.heap.size→F' b∧w'.heap[b]?=w.heap[b]?:=fun b hb hlt=>⟨hgr b hb hlt,hblk b hlt fun e he h=>(hG0.lt e (List.mem_append_left _ he) b h).2 hb⟩
 refine ⟨by rw [List.append_assoc];exact hG,fun t q hq=>q.mono (hR.env t q hq) hm,hR.size,hR.defers,?_,?_,fun b hb hlt=>(hm b (hR.grow b hb hlt) (Nat.lt_of_lt_of_le hlt hR.ch.size)).1⟩
 · refine ⟨hch.os.trans hR.ch.os,hch.tape.trans hR.ch.tape,hch.output.trans hR.ch.output,Nat.le_trans hR.ch.size hch.size,fun j hj hx=>(hblk j (Nat.lt_of_lt_of_le hj hR.ch.size) fun e he h=>?_).trans (hR.ch.block j hj hx)⟩
   obtain ⟨e',h1,h2⟩:=ht.foot e he j h
   rcases hR.own e' h1 j h2 with h|h
   · omega
   · exact hx h
 · intro e' he' b hb
   rcases List.mem_append.1 he' with h|h
   · rcases hown e' h b hb with h|⟨e2,h2,h3⟩
     · exact .inl (Nat.le_trans hR.ch.size h)
     · obtain ⟨e3,h4,h5⟩:=ht.foot e2 h2 b h3
       exact hR.own e3 h4 b h5
   · exact hR.own e' (ht.rest _ h) b hb
theorem Wc {f:FuncId} {fn:Func} {c:Code} {xs:Array Operand} {ts:Array TypeId} {args:List SP} {inn suf:List Ent} {R:SP→List Ent→Prop} {Rp:List PanicEntry→List Ent→Prop} (ht:Takes loc inn suf) (hf:C.P.funcs[f]?=some fn) (hbody:fn.body=some c) (hc:FnP C.P f args inn R Rp) (ha:xs.toList.map (ev env)=args.map some)
   (hk: ∀p loc',R p loc'→WPL C ops Q rest ((d,p)::env) (loc'++suf)) (hp: ∀ch loc',Rp ch loc'→Q (.panic ch) env (loc'++suf)) (hname:(fn.name== "runtime.NumGoroutine")=false:=by rfl) (hd:Nat.blt d C.N=true:=by rfl):WPL C ops Q (⟨some d,.call ⟨.value (.func f),xs,ts⟩,ty,pos,af,none⟩::rest) env loc:=by
 constructor
 intro F a w hR
 refine wpList_plain rfl fun K hK=>?_
 have hG0:=ht.good hR.good
 unfold Oper.wp
 rw [Xd9 hf hbody hname]
 refine (hc F w _ _ hG0 (Tv hR ha)).mono ?_
 rintro e2 w' (⟨v,F',p,loc',rfl,hRp,hpr,hG,hch,hgr,hown⟩|⟨ch,F',loc',rfl,hRp,hG,hch,hgr,hown⟩)
 · exact hK _ _ ((hk p loc' hRp).out F' _ w' (hR.calledG ht hpr hG hch hgr hown hd))
 · exact ⟨F',env,_,hR.panicG ht hG hch hgr hown,hp ch loc' hRp⟩
theorem Su {f:FuncId} {fn:Func} {c:Code} {x:Operand} {vs:List Value} {caps:List SP} {xs:Array Operand} {ts:Array TypeId} {args:List SP} {inn suf:List Ent} {R:SP→List Ent→Prop} {Rp:List PanicEntry→List Ent→Prop} (hx:ev env x=some (ex (.func (.func f) #[] vs.toArray))) (hcap:CapOk env vs caps) (ht:Takes loc inn suf) (hf:C.P.funcs[f]?=some fn) (hbody:fn.body=some c) (hc:FnP C.P f (args++caps) inn R Rp) (ha:xs.toList.map (ev env)=args.map some)
   (hk: ∀p loc',R p loc'→WPL C ops Q rest ((d,p)::env) (loc'++suf)) (hp: ∀ch loc',Rp ch loc'→Q (.panic ch) env (loc'++suf)) (hname:(fn.name== "runtime.NumGoroutine")=false:=by rfl) (hd:Nat.blt d C.N=true:=by rfl):WPL C ops Q (⟨some d,.call ⟨.value x,xs,ts⟩,ty,pos,af,none⟩::rest) env loc:=by
 constructor
 intro F a w hR
 refine wpList_plain rfl fun K hK=>?_
 have hG0:=ht.good hR.good
 have hcv:CellsR F w (args++caps) (xs.toList.map a.eval++vs):=(Tv hR ha).app (hcap.cells hR)
 unfold Oper.wp
 rw [Xfj (We hR hx) hf hbody hname]
 refine (hc F w _ _ hG0 hcv).mono ?_
 rintro e2 w' (⟨v,F',p,loc',rfl,hRp,hpr,hG,hch,hgr,hown⟩|⟨ch,F',loc',rfl,hRp,hG,hch,hgr,hown⟩)
 · exact hK _ _ ((hk p loc' hRp).out F' _ w' (hR.calledG ht hpr hG hch hgr hown hd))
 · exact ⟨F',env,_,hR.panicG ht hG hch hgr hown,hp ch loc' hRp⟩
theorem Rt {dst:Option Tmp} {x:Operand} {T:TypeId} {v:Value} (hx:ev env x=some (ex (.iface T v))) (hp:Q (.panic [{ v:= .iface T v,recovered:=false }]) env loc):WPL C ops Q (⟨dst,.panic x,ty,pos,af,none⟩::rest) env loc:=by
 constructor
 intro F a w hR
 refine wpList_plain rfl fun K hK=>?_
 have hv:=We hR hx
 unfold Oper.wp
 have hrun:(execOp a.eval ⟨dst,.panic x,ty,pos,af,none⟩).run C.P w= .halt (.panic (.iface T v)) w:=by
   have hv:a.eval x= .iface T v:=hv
   generalize a.eval=ρ at hv ⊢
   simp [execOp,hv,Instr.panic,go_sem,goPanic]
 rw [hrun]
 exact ⟨F,env,loc,hR,hp⟩
end
end Go.Fr
namespace Go.Fr
open Go.RowKit Go.Kx
abbrev Xpw (C0:Cx) (fn:Func) (R:SP→List Ent→Prop):Exit→Act→World→Prop:=bodyPostD C0.P fn (fnR C0 R)
theorem Xbk {P:Program} {f:FuncId} {fn:Func} {c:Code} {args:List SP} {inn:List Ent} {R:SP→List Ent→Prop} {N:Nat} (hf:P.funcs[f]?=some fn) (hb:fn.body=some c) (hN:fn.ntmps=N) (hle:Nat.ble args.length N=true)
   (h: ∀w0 F0 out,WPR ⟨P,w0,F0,Rj inn,out,N,[]⟩ c (Xpw ⟨P,w0,F0,Rj inn,out,N,[]⟩ fn R) (Xbu 0 args) inn):FnC P f args inn R:=by
 intro F w vals out hG hA
 have hle':args.length≤N:=Nat.le_of_ble_eq_true hle
 have hsz:vals.length=args.length:=hA.len
 refine calls_of_wp_defers hf hb ((h w F out).out F _ w ⟨hG,?_,?_,rfl,Ch.refl _ _,fun e he b hb=> .inr ⟨e,he,hb⟩,fun b hb _=>hb⟩)
 · intro t p hp
   obtain ⟨j,rfl,hj⟩:=S3 hp
   obtain ⟨v,hv,hr⟩:=hA.at_ j p hj
   have hlt:j<vals.length:=(List.getElem?_eq_some_iff.1 hv).1
   have hx:(vals.toArray++Array.replicate (fn.ntmps-vals.toArray.size) undef).getD (0+j) undef=v:=by
     rw [Nat.zero_add,Array.getD_eq_getD_getElem?,Array.getElem?_append_left (by simpa using hlt)]
     simp [hv]
   rw [hx];exact hr
 · rw [hN];simp;omega
theorem Xly {C0:Cx} {fn:Func} {R:SP→List Ent→Prop} {e:Exit} {env:Env} {loc:List Ent} (hd:C0.dfs=[]) (h:Xmp C0 fn R e env loc):Xn5 C0 (Xpw C0 fn R) e env loc:=by
 intro F a w hR
 obtain ⟨F',v,p,loc',h1,h2,h3,h4,h5,h6⟩:=h.2 F a w hR
 have hdf:a.defers=[]:=hR.defers.trans hd
 have hpost:fnR C0 R (.returned v) w:=⟨v,F',p,loc',rfl,h2,h3,h4,hR.ch,h5,h6⟩
 have key:Leaves C0.P fn a.tmps (fnR C0 R) a.defers .returning w:=by rw [hdf];exact ⟨v,h1,hpost⟩
 rcases h.1 with rfl|rfl<;>exact key
def FnD (P:Program) (f:FuncId) (args:List SP) (inn:List Ent) (u:FrameMode) (R:FrameMode→List Ent→Prop):Prop:=
 ∀(F:Nat→Prop) (w:World) (vals:List Value) (out:List Ent),Good F (inn++out) w→CellsR F w args vals→
   CallsD P f vals.toArray u w fun e u' w'=> ∃v F' loc',e= .returned v∧R u' loc'∧Good F' (loc'++out) w'∧Ch (fun b=> ∃e∈inn,b∈e.foot) w w'∧(∀b,F b→b<w.heap.size→F' b)∧
     ∀e∈loc',∀b∈e.foot,w.heap.size≤b∨ ∃e∈inn,b∈e.foot
theorem Xcv {C:Cx} {ops:Array Oper} {y:Code} {T:Exit→Act→World→Prop} {dst:Option Tmp} {ty:TypeId} {pos:String} {af:Array Edge} {g:Fn} {x:Operand} {ts:Array TypeId} {env:Env} {loc:List Ent} {vs:Array Value} (hx:ev env x=some (ex (.func g #[] vs))) (hk:WPR (C.withD ⟨.fn g vs,#[]⟩) y T env loc) (hdst:dst=none):WPLR C ops (Exit.then (y.wp C.P T) T) [⟨dst,.defer ⟨.value x,#[],ts⟩,ty,pos,af,none⟩] env loc:=by
 subst hdst
 constructor
 intro F a w hR
 unfold wpList
 rw [if_pos (by simp [Region.wanted])]
 refine .inl ?_
 have hv:a.eval x= .func g #[] vs:=We hR hx
 unfold Oper.wp
 have hrun:(execOp a.eval ⟨none,.defer ⟨.value x,#[],ts⟩,ty,pos,af,none⟩).run C.P w= .ok (.defer ⟨.fn g vs,#[]⟩) w:=by
   generalize a.eval=ρ at hv ⊢
   simp [execOp,resolve,hv,Deferred.ofValue,go_sem]
 rw [hrun]
 exact hk.out F _ w ⟨hR.good,hR.env,hR.size,by show _::a.defers=_::C.dfs;rw [hR.defers],hR.ch,hR.own,hR.grow⟩
theorem Xlz {P:Program} {f:FuncId} {fn:Func} {c:Code} {vs:Array Value} (hf:P.funcs[f]?=some fn) (hbody:fn.body=some c) (hname:(fn.name== "runtime.NumGoroutine")=false) (w:World):(invoke (.fn (.func f) vs) #[]).run P w= .ok (.enter f vs) w:=by
 have hname': ¬fn.name= "runtime.NumGoroutine":=by simpa using hname
 simp [invoke,callFunc,go_sem,hf,hname',hbody]
def modeOf:Exit→Option FrameMode
 | .normal| .ret=>some .returning
 | .panic ch=>some (.panicking ch)
 | _=>none
theorem Xnn {C0:Cx} {fn:Func} {R:SP→List Ent→Prop} {e:Exit} {env:Env} {loc inn suf:List Ent} {u:FrameMode} {g:FuncId} {gn:Func} {gc:Code} {args:List SP} {vs:List Value} {Rd:FrameMode→List Ent→Prop} (hd:C0.dfs=[]) (hu:modeOf e=some u) (ht:Takes loc inn suf) (hf:C0.P.funcs[g]?=some gn) (hbody:gn.body=some gc) (hname:(gn.name== "runtime.NumGoroutine")=false) (hc:FnD C0.P g args inn u Rd) (hcap:CapOk env vs args)
   (hk: ∀u' loc',Rd u' loc'→settle u'= .returning∧Xmp C0 fn R .ret env (loc'++suf)):Xn5 (C0.withD ⟨.fn (.func g) vs.toArray,#[]⟩) (Xpw C0 fn R) e env loc:=by
 intro F a w hR
 have hR0:Rel C0 F env loc { a with defers:=[] } w:=⟨hR.good,hR.env,hR.size,hd.symm,hR.ch,hR.own,hR.grow⟩
 have hdf:a.defers=[⟨.fn (.func g) vs.toArray,#[]⟩]:=by rw [hR.defers];show _::C0.dfs=_;rw [hd]
 have hG0:Good F (inn++(suf++C0.out)) w:=ht.good hR0.good
 have hcv:CellsR F w args vs:=hcap.cells hR0
 have hrun:u≠ .run:=by
   rintro rfl
   cases e<;>simp [modeOf] at hu
 have key:Leaves C0.P fn a.tmps (fnR C0 R) a.defers u w:=by
   rw [hdf]
   refine leaves_cons hrun (Xlz hf hbody hname w) ?_
   refine CallsD.mono (hc F w _ _ hG0 hcv) ?_
   rintro e2 u' w' ⟨v,F',loc',rfl,hRd,hG,hch,hgr,hown⟩
   obtain ⟨hs,hret⟩:=hk u' loc' hRd
   have hR2:=hR0.panicG ht hG hch hgr hown
   obtain ⟨F2,v2,p2,loc2,g1,g2,g3,g4,g5,g6⟩:=hret.2 F' _ w' hR2
   show Leaves C0.P fn a.tmps (fnR C0 R) [] (settle u') w'
   rw [hs]
   exact ⟨v2,g1,v2,F2,p2,loc2,rfl,g2,g3,g4,hR2.ch,g5,g6⟩
 cases e with
 | normal=>simp only [modeOf,Option.some.injEq] at hu;subst hu;exact key
 | ret=>simp only [modeOf,Option.some.injEq] at hu;subst hu;exact key
 | panic ch=>simp only [modeOf,Option.some.injEq] at hu;subst hu;exact key
 | exit _=>simp [modeOf] at hu
 | goto _=>simp [modeOf] at hu
 | outgrown=>simp [modeOf] at hu
end Go.Fr
namespace Go.Fr
open Go.RowKit Go.Kx
def concB:TypeDesc→Bool
 | .interface _=>false
 | _=>true
section
variable {C:Cx} {S:(Nat→Prop)→World→World→Prop} {env:Env} {loc:List Ent} {dst:Option Tmp} {ty:TypeId} {pos:String} {af:Array Edge} {g:Option (Nat×Bool)}
theorem Xew {x:Operand} {T:TypeId} {v:Value} {dd:TypeDesc} (hx:ev env x=some (ex v)) (ht:C.P.underlying T=some dd) (hn:concB dd=true:=by rfl):WT C S ⟨dst,.makeInterface T x,ty,pos,af,g⟩ (ex (.iface T v)) env loc:=by
 constructor
 intro F a w hR
 have hv:a.eval x=v:=We hR hx
 refine ⟨_,rfl,fun w' _=>?_⟩
 generalize a.eval=ρ at hv ⊢
 cases dd<;>first|(cases hn;done)|simp [execOp,Instr.makeInterface,hv,Vs ht,go_sem]
theorem Xl0 {x:Operand} {xT T:TypeId} {v:Value} {dd:TypeDesc} (hx:ev env x=some (ex (.iface T v))) (ht:C.P.underlying T=some dd) (hn:concB dd=true:=by rfl):WT C S ⟨dst,.typeAssert x xT T false,ty,pos,af,g⟩ (ex v) env loc:=by
 constructor
 intro F a w hR
 have hv:a.eval x= .iface T v:=We hR hx
 refine ⟨_,rfl,fun w' _=>?_⟩
 generalize a.eval=ρ at hv ⊢
 cases dd<;>first|(cases hn;done)|simp [execOp,Instr.typeAssert,hv,Vs ht,go_sem]
theorem Xdv (l:List UInt8) (lo hi:Nat):(⟨l.toArray⟩:ByteArray).extract lo hi=⟨((l.take hi).drop lo).toArray⟩:=by
 apply ByteArray.ext
 rw [ByteArray.data_extract]
 apply Array.ext'
 rw [Array.toList_extract]
 simp [List.extract,List.drop_take]
theorem Xl1 (l:List UInt8):(⟨l.toArray⟩:ByteArray).size=l.length:=by show l.toArray.size=l.length;simp
theorem Xph {l:List UInt8} {t:TypeId} {x y z:Operand} {k k2:IntKind} {a1 a2:Int} {lo hi:Nat} (hx:ev env x=some (exT l)) (hy:ev env y=some (exI k a1)) (hz:ev env z=some (exI k2 a2)) [e1:Nt a1 lo] [e2:Nt a2 hi] (ht:C.P.underlying t=some .string) (h1:lo≤hi:=by first|omega|(simp;done)|(simp;omega)) (h2:hi≤l.length:=by first|omega|(simp;done)|(simp;omega)):
   WT C S ⟨dst,.slice t x (some y) (some z) none,ty,pos,af,g⟩ (exT ((l.take hi).drop lo)) env loc:=by
 constructor
 intro F a w hR
 obtain ⟨rfl⟩:=e1;obtain ⟨rfl⟩:=e2
 have hv:a.eval x= .string ⟨l.toArray⟩:=We hR hx
 have hvy:a.eval y= .int k lo:=We hR hy
 have hvz:a.eval z= .int k2 hi:=We hR hz
 refine ⟨_,rfl,fun w' _=>?_⟩
 have hsz:=Xl1 l
 have he:=Xdv l lo hi
 generalize a.eval=ρ at hv hvy hvz ⊢
 generalize (⟨l.toArray⟩:ByteArray)=s at hv hsz he
 have h4:hi≤s.size:=by omega
 simp [execOp,hv,hvy,hvz,Instr.sliceAt,Instr.slice,Instr.sliceBounds,Instr.sliceBound,asIntOf,Vs ht,go_sem,he,h1,h4]
theorem Xex {l:List UInt8} {t:TypeId} {x y:Operand} {k:IntKind} {a1:Int} {lo:Nat} (hx:ev env x=some (exT l)) (hy:ev env y=some (exI k a1)) [e1:Nt a1 lo] (ht:C.P.underlying t=some .string) (h1:lo≤l.length:=by first|omega|(simp;done)|(simp;omega)):
   WT C S ⟨dst,.slice t x (some y) none none,ty,pos,af,g⟩ (exT (l.drop lo)) env loc:=by
 constructor
 intro F a w hR
 obtain ⟨rfl⟩:=e1
 have hv:a.eval x= .string ⟨l.toArray⟩:=We hR hx
 have hvy:a.eval y= .int k lo:=We hR hy
 refine ⟨_,rfl,fun w' _=>?_⟩
 have hsz:=Xl1 l
 have he:=Xdv l lo l.length
 rw [List.take_length] at he
 generalize a.eval=ρ at hv hvy ⊢
 generalize (⟨l.toArray⟩:ByteArray)=s at hv hsz he
 have h4: ¬s.size<lo:=by omega
 rw [←hsz] at he
 simp [execOp,hv,hvy,Instr.sliceAt,Instr.slice,Instr.sliceBounds,Instr.sliceBound,asIntOf,Vs ht,go_sem,he,h4]
theorem Xcw {t:TypeId} {x:Operand} {p:SP} (h:WT C S ⟨dst,.makeInterface t x,ty,pos,af,g⟩ p env loc):WT C S ⟨dst,.makeInterface t x,ty,pos,af,g⟩ p env loc:=h
theorem Xno {x:Operand} {t u:TypeId} {b:Bool} {p:SP} (h:WT C S ⟨dst,.typeAssert x t u b,ty,pos,af,g⟩ p env loc):WT C S ⟨dst,.typeAssert x t u b,ty,pos,af,g⟩ p env loc:=h
end
end Go.Fr
namespace Go.Lx
def inR (c:UInt8) (a b:Nat):Bool:=decide (a≤c.toNat∧c.toNat≤b)
def V3 (c:UInt8):Bool:=inR c 97 122||inR c 65 90
def digitB (c:UInt8):Bool:=inR c 48 57
def spaceB (c:UInt8):Bool:=decide (c=32∨c=9∨c=10∨c=13)
def signL:List UInt8:=[123,125,40,41,59,44,61,58,46,60,62,33,43,45,42,47]
def Tu (c:UInt8):Bool:=decide (c∈signL)
def partB (c:UInt8):Bool:=V3 c||(digitB c||decide (c=95))
def lineB (c:UInt8):Bool:=decide (c≠10)
def S7 (s:List UInt8):Nat:=s.foldl (fun n c=>10 * n+(c.toNat-48)) 0
structure TokD where
 kind:Int
 text:List UInt8
 n:Int
 at_:Int
instance:DecidableEq TokD:=fun a b=>decidable_of_iff (a.kind=b.kind∧a.text=b.text∧a.n=b.n∧a.at_=b.at_) Yei
def Ru (s:List UInt8):Bool:=decide (1≤s.length∧s.length≤32)&&(((s.head?).map V3).getD false&&s.all partB)
def Xc1 (t:List UInt8):Bool:=decide (S7 t≤1099511627776)&&(decide (t.length=1)||decide (t.head?≠some 48))
inductive St where
 | skip (n:Nat)
 | tok (n:Nat) (kind:Int) (text:List UInt8) (v:Int)
 | bad
def St.len:St→Nat
 | skip n=>n
 | tok n _ _ _=>n
 | bad=>0
def step:List UInt8→St
 | []=> .bad
 | c::s=>
   if spaceB c then .skip 1
   else if c=47∧s.head?=some 47 then .skip ((c::s).takeWhile lineB).length
   else if V3 c then (if ((c::s).takeWhile partB).length≤32 then .tok ((c::s).takeWhile partB).length 1 ((c::s).takeWhile partB) 0 else .bad)
   else if digitB c then (if Xc1 ((c::s).takeWhile digitB) then .tok ((c::s).takeWhile digitB).length 2 [] (S7 ((c::s).takeWhile digitB)) else .bad)
   else if Tu c then .tok 1 3 [c] 0 else .bad
def lexG:Nat→Nat→List UInt8→Except Nat (List TokD)
 | _,_,[]=> .ok []
 | 0,p,_::_=> .error p
 | f+1,p,c::s=>match step (c::s) with
   | .bad=> .error p
   | .skip n=>lexG f (p+n) ((c::s).drop n)
   | .tok n k t v=>(lexG f (p+n) ((c::s).drop n)).map (⟨k,t,v,p⟩:: ·)
def T7 (p:Nat) (s:List UInt8):Except Nat (List TokD):=lexG s.length p s
theorem Uc (c:UInt8):(V3 c=true→spaceB c=false∧digitB c=false∧Tu c=false∧c≠47∧c≠95∧c≠32)∧(digitB c=true→spaceB c=false∧V3 c=false∧Tu c=false∧c≠47∧c≠95∧c≠32)∧(Tu c=true→spaceB c=false∧V3 c=false∧digitB c=false∧c≠95∧c≠32)∧(spaceB c=true→partB c=false∧digitB c=false∧V3 c=false∧Tu c=false∧c≠47):=by
 have key: ∀n:Fin 256,(V3 (UInt8.ofNat n.val)=true→spaceB (UInt8.ofNat n.val)=false∧digitB (UInt8.ofNat n.val)=false∧Tu (UInt8.ofNat n.val)=false∧UInt8.ofNat n.val≠47∧UInt8.ofNat n.val≠95∧UInt8.ofNat n.val≠32)∧(digitB (UInt8.ofNat n.val)=true→spaceB (UInt8.ofNat n.val)=false∧V3 (UInt8.ofNat n.val)=false∧Tu (UInt8.ofNat n.val)=false∧UInt8.ofNat n.val≠47∧UInt8.ofNat n.val≠95∧UInt8.ofNat n.val≠32)∧(Tu (UInt8.ofNat n.val)=true→spaceB (UInt8.ofNat n.val)=false∧V3 (UInt8.ofNat n.val)=false∧digitB (UInt8.ofNat n.val)=false∧UInt8.ofNat n.val≠95∧UInt8.ofNat n.val≠32)∧(spaceB (UInt8.ofNat n.val)=true→partB (UInt8.ofNat n.val)=false∧digitB (UInt8.ofNat n.val)=false∧V3 (UInt8.ofNat n.val)=false∧Tu (UInt8.ofNat n.val)=false∧UInt8.ofNat n.val≠47):=by decide +kernel
 have h:=key ⟨c.toNat,c.toNat_lt⟩
 rw [show UInt8.ofNat c.toNat=c from UInt8.ofNat_toNat] at h
 exact h
theorem Xl2 {α:Type} {p:α→Bool}: ∀{a b:List α},(∀x∈a,p x=true)→(∀c r,b=c::r→p c=false)→(a++b).takeWhile p=a
 | [],[],_,_=>rfl
 | [],c::r,_,h=>by rw [List.nil_append,List.takeWhile_cons,h c r rfl];rfl
 | x::a,b,h,hb=>by
   rw [List.cons_append,List.takeWhile_cons,h x List.mem_cons_self,if_pos rfl,Xl2 (fun y hy=>h y (List.mem_cons_of_mem _ hy)) hb]
theorem Xa4 {α:Type} {p:α→Bool}: ∀{s:List α},∀x∈s.takeWhile p,p x=true
 | [],x,h=>by cases h
 | c::s,x,h=>by
   rw [List.takeWhile_cons] at h
   by_cases hc:p c=true
   · rw [if_pos hc] at h
     rcases List.mem_cons.1 h with rfl|h
     · exact hc
     · exact Xa4 x h
   · rw [if_neg hc] at h;cases h
theorem Xhp {α:Type} {p:α→Bool}: ∀{s:List α},∀c r,s.drop (s.takeWhile p).length=c::r→p c=false
 | [],c,r,h=>by cases h
 | x::s,c,r,h=>by
   rw [List.takeWhile_cons] at h
   by_cases hx:p x=true
   · rw [if_pos hx,List.length_cons,List.drop_succ_cons] at h
     exact Xhp c r h
   · rw [if_neg hx] at h
     injection h with h1 h2
     subst h1;simpa using hx
theorem Xan {α:Type} {p:α→Bool}: ∀(s:List α),s.take (s.takeWhile p).length=s.takeWhile p
 | []=>rfl
 | x::s=>by
   rw [List.takeWhile_cons]
   by_cases hx:p x=true
   · rw [if_pos hx,List.length_cons,List.take_succ_cons,Xan s]
   · rw [if_neg hx];rfl
theorem Qc {α:Type} {p:α→Bool} (s:List α):(s.takeWhile p).length≤s.length:=(List.takeWhile_sublist _).length_le
def St.stop (r:St) (a:List UInt8) (c:UInt8):Prop:=match r with
 | .skip _=>(∃d x,a=[d]∧x=d∧spaceB d=true)∨lineB c=false
 | .tok _ k t _=>(k=1→partB c=false)∧(k=2→digitB c=false)∧(k=3→t=[47]→c≠47)
 | .bad=>True
end Go.Lx
namespace Go.Lx
theorem Uh {c:UInt8} (h:V3 c=true):partB c=true:=by unfold partB;rw [h];rfl
theorem Xl3 {c:UInt8} (h:c≠10):lineB c=true:=by unfold lineB;exact decide_eq_true h
theorem T5 (c:UInt8) (s:List UInt8):step (c::s)=if spaceB c then .skip 1
   else if c=47∧s.head?=some 47 then .skip ((c::s).takeWhile lineB).length
   else if V3 c then (if ((c::s).takeWhile partB).length≤32 then .tok ((c::s).takeWhile partB).length 1 ((c::s).takeWhile partB) 0 else .bad)
   else if digitB c then (if Xc1 ((c::s).takeWhile digitB) then .tok ((c::s).takeWhile digitB).length 2 [] (S7 ((c::s).takeWhile digitB)) else .bad)
   else if Tu c then .tok 1 3 [c] 0 else .bad:=rfl
theorem Xdw {c:UInt8} (h:spaceB c=true) (b:List UInt8):step (c::b)= .skip 1:=by rw [T5,if_pos h]
theorem Xl4 {c:UInt8} {w b:List UInt8} (h:V3 c=true) (hw: ∀x∈w,partB x=true) (hl:(c::w).length≤32) (hb: ∀d r,b=d::r→partB d=false):step (c::w++b)= .tok (c::w).length 1 (c::w) 0:=by
 have ht:(c::w++b).takeWhile partB=c::w:=Xl2 (fun x hx=>by
   rcases List.mem_cons.1 hx with rfl|hx
   · exact Uh h
   · exact hw x hx) hb
 obtain ⟨h1,-,-,h4,-,-⟩:=(Uc c).1 h
 rw [List.cons_append,T5,if_neg (by simp [h1]),if_neg (by simp [h4]),if_pos h,←List.cons_append,ht,if_pos hl]
theorem Xnp {c:UInt8} {w b:List UInt8} (h:digitB c=true) (hw: ∀x∈w,digitB x=true) (hn:Xc1 (c::w)=true) (hb: ∀d r,b=d::r→digitB d=false):step (c::w++b)= .tok (c::w).length 2 [] (S7 (c::w)):=by
 have ht:(c::w++b).takeWhile digitB=c::w:=Xl2 (fun x hx=>by
   rcases List.mem_cons.1 hx with rfl|hx
   · exact h
   · exact hw x hx) hb
 obtain ⟨h1,h2,-,h4,-,-⟩:=(Uc c).2.1 h
 rw [List.cons_append,T5,if_neg (by simp [h1]),if_neg (by simp [h4]),if_neg (by simp [h2]),if_pos h,←List.cons_append,ht,if_pos hn]
theorem Xgd {c:UInt8} {b:List UInt8} (h:Tu c=true) (hb:c=47→b.head?≠some 47):step (c::b)= .tok 1 3 [c] 0:=by
 obtain ⟨h1,h2,h3,-,-⟩:=(Uc c).2.2.1 h
 rw [T5,if_neg (by simp [h1]),if_neg (fun e=>hb e.1 e.2),if_neg (by simp [h2]),if_neg (by simp [h3]),if_pos h]
inductive StepIs (c:UInt8) (s:List UInt8):St→Prop
 | space (h:spaceB c=true):StepIs c s (.skip 1)
 | comment (h:c=47) (h2:s.head?=some 47):StepIs c s (.skip ((c::s).takeWhile lineB).length)
 | name (h:V3 c=true) (hl:((c::s).takeWhile partB).length≤32):StepIs c s (.tok ((c::s).takeWhile partB).length 1 ((c::s).takeWhile partB) 0)
 | num (h:digitB c=true) (hn:Xc1 ((c::s).takeWhile digitB)=true):StepIs c s (.tok ((c::s).takeWhile digitB).length 2 [] (S7 ((c::s).takeWhile digitB)))
 | sign (h:Tu c=true) (h2:c=47→s.head?≠some 47):StepIs c s (.tok 1 3 [c] 0)
 | badName (h:V3 c=true) (hl:32<((c::s).takeWhile partB).length):StepIs c s .bad
 | badNum (h:digitB c=true) (hn:Xc1 ((c::s).takeWhile digitB)=false):StepIs c s .bad
 | other (h1:spaceB c=false) (h2:V3 c=false) (h3:digitB c=false) (h4:Tu c=false):StepIs c s .bad
theorem sign47:Tu 47=true:=by decide
theorem Xey (c:UInt8) (s:List UInt8):StepIs c s (step (c::s)):=by
 rw [T5]
 by_cases h1:spaceB c=true
 · rw [if_pos h1];exact .space h1
 rw [if_neg h1]
 by_cases h2:c=47∧s.head?=some 47
 · rw [if_pos h2];exact .comment h2.1 h2.2
 rw [if_neg h2]
 by_cases h3:V3 c=true
 · rw [if_pos h3]
   by_cases hl:((c::s).takeWhile partB).length≤32
   · rw [if_pos hl];exact .name h3 hl
   · rw [if_neg hl];exact .badName h3 Yan
 rw [if_neg h3]
 by_cases h4:digitB c=true
 · rw [if_pos h4]
   by_cases hn:Xc1 ((c::s).takeWhile digitB)=true
   · rw [if_pos hn];exact .num h4 hn
   · rw [if_neg hn];exact .badNum h4 (by simpa using hn)
 rw [if_neg h4]
 by_cases h5:Tu c=true
 · rw [if_pos h5];exact .sign h5 fun e e2=>h2 ⟨e,e2⟩
 · rw [if_neg h5];exact .other (by simpa using h1) (by simpa using h3) (by simpa using h4) (by simpa using h5)
theorem S1 {p:UInt8→Bool} {c:UInt8} {s:List UInt8} (h:p c=true):1≤((c::s).takeWhile p).length:=by
 rw [List.takeWhile_cons,if_pos h,List.length_cons];omega
theorem Xab (c:UInt8) (s:List UInt8) (h:step (c::s)≠ .bad):1≤(step (c::s)).len∧(step (c::s)).len≤(c::s).length:=by
 have hs:=Xey c s
 generalize step (c::s)=r at hs h ⊢
 cases hs with
 | space _=>exact ⟨Nat.le_refl _,by show 1≤_;simp⟩
 | comment h1 _=>exact ⟨S1 (by subst h1;decide),Qc _⟩
 | name h1 _=>exact ⟨S1 (Uh h1),Qc _⟩
 | num h1 _=>exact ⟨S1 h1,Qc _⟩
 | sign _ _=>exact ⟨Nat.le_refl _,by show 1≤_;simp⟩
 | badName _ _=>exact absurd rfl h
 | badNum _ _=>exact absurd rfl h
 | other _ _ _ _=>exact absurd rfl h
theorem lexG_fuel: ∀(f g p:Nat) (s:List UInt8),s.length≤f→s.length≤g→lexG f p s=lexG g p s
 | 0,0,_,[],_,_=>rfl
 | 0,_+1,_,[],_,_=>rfl
 | _+1,0,_,[],_,_=>rfl
 | _+1,_+1,_,[],_,_=>rfl
 | 0,_,_,_::_,h,_=>absurd h Yb9
 | _+1,0,_,_::_,_,h=>absurd h Yb9
 | f+1,g+1,p,c::s,hf,hg=>by
   have hl:=Xab c s
   unfold lexG
   cases hr:step (c::s) with
   | bad=>rfl
   | skip n=>
     rw [hr] at hl
     have:=hl Yb9
     simp only [St.len,List.length_cons] at this hf hg
     exact lexG_fuel f g _ _ Yc5 Yc5
   | tok n k t v=>
     rw [hr] at hl
     have:=hl Yb9
     simp only [St.len,List.length_cons] at this hf hg
     show Except.map _ _=Except.map _ _
     rw [lexG_fuel f g _ _ Yc5 Yc5]
theorem Xb9 (p:Nat):T7 p []= .ok []:=rfl
theorem Xez {p:Nat} {c:UInt8} {s:List UInt8} (h:step (c::s)= .bad):T7 p (c::s)= .error p:=by
 unfold T7;rw [List.length_cons,lexG,h]
theorem Xcx {p n:Nat} {c:UInt8} {s:List UInt8} (h:step (c::s)= .skip n):T7 p (c::s)=T7 (p+n) ((c::s).drop n):=by
 have hl:=Xab c s (by rw [h];simp)
 rw [h] at hl
 simp only [St.len,List.length_cons] at hl
 unfold T7
 rw [List.length_cons,lexG,h]
 exact lexG_fuel _ _ _ _ Yc5 (Nat.le_refl _)
theorem Xe0 {p n:Nat} {k v:Int} {t:List UInt8} {c:UInt8} {s:List UInt8} (h:step (c::s)= .tok n k t v):T7 p (c::s)=(T7 (p+n) ((c::s).drop n)).map (⟨k,t,v,p⟩:: ·):=by
 have hl:=Xab c s (by rw [h];simp)
 rw [h] at hl
 simp only [St.len,List.length_cons] at hl
 unfold T7
 rw [List.length_cons,lexG,h]
 show Except.map _ _=_
 rw [lexG_fuel _ _ _ _ Yc5 (Nat.le_refl _)]
theorem Xl5 {P:Nat→List UInt8→Prop} (h0: ∀p,P p []) (h: ∀p c s,(step (c::s)≠ .bad→P (p+(step (c::s)).len) ((c::s).drop (step (c::s)).len))→P p (c::s)): ∀p s,P p s:=by
 have key: ∀m s,s.length≤m→ ∀p,P p s:=by
   intro m
   induction m with
   | zero=>
     intro s hs p
     cases s with
     | nil=>exact h0 p
     | cons c s=>simp at hs
   | succ m ih=>
     intro s hs p
     cases s with
     | nil=>exact h0 p
     | cons c s=>
       refine h p c s fun hb=>ih _ ?_ _
       have:=Xab c s hb
       rw [List.length_drop];simp only [List.length_cons] at hs ⊢;omega
 exact fun p s=>key s.length s (Nat.le_refl _) p
end Go.Lx
namespace Go.Lx
def decF:Nat→List UInt8
 | n=>if h:n<10 then [UInt8.ofNat (48+n)] else decF (n / 10)++[UInt8.ofNat (48+n % 10)]
decreasing_by omega
theorem Uy {n:Nat} (h:n<10):decF n=[UInt8.ofNat (48+n)]:=by rw [decF,dif_pos h]
theorem Rf {n:Nat} (h: ¬n<10):decF n=decF (n / 10)++[UInt8.ofNat (48+n % 10)]:=by rw [decF,dif_neg h]
theorem Xe1 {d:Nat} (h:d<10):(UInt8.ofNat (48+d)).toNat=48+d:=by
 rw [UInt8.toNat_ofNat'];omega
theorem Xge {d:Nat} (h:d<10):digitB (UInt8.ofNat (48+d))=true:=by
 unfold digitB inR;rw [Xe1 h];exact decide_eq_true ⟨by omega,by omega⟩
theorem Xa5 {P:Nat→Prop} (h0: ∀n,n<10→P n) (h: ∀n,¬n<10→P (n / 10)→P n): ∀n,P n:=by
 intro n
 induction n using Nat.strongRecOn with
 | _ n ih=>
   by_cases hn:n<10
   · exact h0 n hn
   · exact h n hn (ih _ Yan)
theorem decF_digits: ∀n,∀c∈decF n,digitB c=true:=by
 refine Xa5 (fun n h c hc=>?_) fun n h ih c hc=>?_
 · rw [Uy h,List.mem_singleton] at hc;subst hc;exact Xge h
 · rw [Rf h,List.mem_append,List.mem_singleton] at hc
   rcases hc with hc|rfl
   · exact ih c hc
   · exact Xge Yan
theorem Xhq (n:Nat):decF n≠[]:=by
 by_cases h:n<10
 · rw [Uy h];simp
 · rw [Rf h];simp
theorem Xgf (s:List UInt8) (c:UInt8):S7 (s++[c])=10 * S7 s+(c.toNat-48):=by
 unfold S7;rw [List.foldl_append];rfl
theorem decF_val: ∀n,S7 (decF n)=n:=by
 refine Xa5 (fun n h=>?_) fun n h ih=>?_
 · rw [Uy h];show 10 * 0+((UInt8.ofNat (48+n)).toNat-48)=n;rw [Xe1 h];omega
 · rw [Rf h,Xgf,ih,Xe1 Yan];omega
theorem decF_head: ∀n,1≤n→(decF n).head?≠some 48:=by
 refine Xa5 (fun n h hn=>?_) fun n h ih _=>?_
 · rw [Uy h]
   intro e
   have e2:UInt8.ofNat (48+n)=48:=by simpa using e
   have:=congrArg UInt8.toNat e2
   rw [Xe1 h] at this
   have:48+n=48:=this
   omega
 · rw [Rf h]
   cases hd:decF (n / 10) with
   | nil=>exact absurd hd (Xhq _)
   | cons c r=>
     rw [List.cons_append,List.head?_cons]
     have:=ih Yan
     rw [hd,List.head?_cons] at this
     exact this
theorem Xl6 {n:Nat} (h:n≤1099511627776):Xc1 (decF n)=true:=by
 unfold Xc1
 rw [decF_val,decide_eq_true h,Bool.true_and,Bool.or_eq_true,decide_eq_true_iff,decide_eq_true_iff]
 by_cases hn:n=0
 · left;subst hn;rw [Uy Yan];rfl
 · right;exact decF_head n Yan
theorem Xnq {c:UInt8} {s:List UInt8} (h:c≠48) (hc:digitB c=true):1≤S7 (c::s):=by
 have key: ∀(s:List UInt8) (n:Nat),1≤n→1≤s.foldl (fun n c=>10 * n+(c.toNat-48)) n:=by
   intro s
   induction s with
   | nil=>intro n h;exact h
   | cons d s ih=>intro n hn;exact ih (10 * n+(d.toNat-48)) Yan
 unfold digitB inR at hc
 have hc:=of_decide_eq_true hc
 have:c.toNat≠48:=fun e=>h (by have:=congrArg UInt8.ofNat e;rwa [UInt8.ofNat_toNat] at this)
 refine key s _ ?_
 show 1≤10 * 0+(c.toNat-48)
 omega
theorem Xiu {c:UInt8} (h:digitB c=true):UInt8.ofNat (48+(c.toNat-48))=c:=by
 unfold digitB inR at h
 have h:=of_decide_eq_true h
 rw [show 48+(c.toNat-48)=c.toNat by omega,UInt8.ofNat_toNat]
theorem val_dec: ∀(s:List UInt8),(∀c∈s,digitB c=true)→s≠[]→(s.length=1∨s.head?≠some 48)→decF (S7 s)=s:=by
 intro s
 induction hm:s.length using Nat.strongRecOn generalizing s with
 | _ m ih=>
   intro hd hne hz
   obtain ⟨a,c,rfl⟩: ∃a c,s=a++[c]:=⟨s.dropLast,s.getLast hne,(List.dropLast_concat_getLast hne).symm⟩
   have hc:=hd c Yb9
   have hc2:=hc
   unfold digitB inR at hc2
   have hc2:=of_decide_eq_true hc2
   rw [Xgf]
   by_cases ha:a=[]
   · subst ha
     show decF (10 * 0+(c.toNat-48))=[c]
     rw [Uy Yan,Nat.mul_zero,Nat.zero_add,Xiu hc]
   · have hda: ∀x∈a,digitB x=true:=fun x hx=>hd x (List.mem_append_left _ hx)
     cases a with
     | nil=>exact absurd rfl ha
     | cons x r=>
       have hx:x≠48:=by
         rcases hz with h|h
         · have hm2:=hm;simp at hm2;omega
         · intro e;subst e;exact h rfl
       have hv:=Xnq (s:=r) hx (hda x Yb9)
       have:=ih _ (by rw [←hm];simp) (x::r) rfl hda Yb9 (.inr (by simpa using hx))
       rw [Rf Yan,show (10 * S7 (x::r)+(c.toNat-48)) / 10=S7 (x::r) by omega,this,show (10 * S7 (x::r)+(c.toNat-48)) % 10=c.toNat-48 by omega,Xiu hc]
def V0 (t:TokD):Bool:=
 if t.kind=1 then Ru t.text&&decide (t.n=0)
 else if t.kind=2 then decide (t.text=[])&&decide (0≤t.n∧t.n≤1099511627776)
 else if t.kind=3 then decide (t.text.length=1)&&(((t.text.head?).map Tu).getD false&&decide (t.n=0))
 else false
def word (t:TokD):List UInt8:=if t.kind=2 then decF t.n.toNat else t.text
def joinF:List (List UInt8)→List UInt8
 | []=>[]
 | [w]=>w
 | w::l=>w++32::joinF l
theorem Xbl (w v:List UInt8) (l:List (List UInt8)):joinF (w::v::l)=w++32::joinF (v::l):=rfl
def Ends (b:List UInt8):Prop:= ∀d r,b=d::r→d=32
theorem Ends.part {b:List UInt8} (h:Ends b): ∀d r,b=d::r→partB d=false:=fun d r e=>by rw [h d r e];decide
theorem Ends.digit {b:List UInt8} (h:Ends b): ∀d r,b=d::r→digitB d=false:=fun d r e=>by rw [h d r e];decide
theorem Ends.slash {b:List UInt8} (h:Ends b):b.head?≠some 47:=by
 cases b with
 | nil=>simp
 | cons d r=>rw [h d r rfl,List.head?_cons];decide
theorem Xql {s:List UInt8}:Ru s=true↔ ∃c w,s=c::w∧s.length≤32∧V3 c=true∧ ∀x∈w,partB x=true:=by
 unfold Ru
 cases s with
 | nil=>simp
 | cons c w=>
   rw [Bool.and_eq_true,Bool.and_eq_true,decide_eq_true_iff,List.all_eq_true]
   constructor
   · rintro ⟨⟨-,h2⟩,h3,h4⟩
     exact ⟨c,w,rfl,h2,h3,fun x hx=>h4 x (List.mem_cons_of_mem _ hx)⟩
   · rintro ⟨c',w',e,h2,h3,h4⟩
     injection e with e1 e2
     subst e1;subst e2
     refine ⟨⟨by simp,h2⟩,h3,fun x hx=>?_⟩
     rcases List.mem_cons.1 hx with rfl|hx
     · exact Uh h3
     · exact h4 x hx
theorem Xl7 {t:TokD} (h:V0 t=true) {b:List UInt8} (hb:Ends b): ∃c w,word t=c::w∧step (word t++b)= .tok (word t).length t.kind t.text t.n:=by
 obtain ⟨k,s,n,a⟩:=t
 unfold V0 at h
 simp only at h
 unfold word
 simp only
 by_cases h1:k=1
 · subst h1
   rw [if_pos rfl,Bool.and_eq_true,decide_eq_true_iff] at h
   obtain ⟨hn,rfl⟩:=h
   obtain ⟨c,w,rfl,hl,hc,hw⟩:=Xql.1 hn
   rw [if_neg Yao]
   exact ⟨c,w,rfl,Xl4 hc hw hl hb.part⟩
 rw [if_neg h1] at h
 by_cases h2:k=2
 · subst h2
   rw [if_pos rfl,Bool.and_eq_true,decide_eq_true_iff,decide_eq_true_iff] at h
   obtain ⟨rfl,h3,h4⟩:=h
   rw [if_pos rfl]
   cases hd:decF n.toNat with
   | nil=>exact absurd hd (Xhq _)
   | cons c w=>
     have hdg:=decF_digits n.toNat
     rw [hd] at hdg
     have hnb:=Xl6 (n:=n.toNat) Yan
     rw [hd] at hnb
     have hst:=Xnp (b:=b) (hdg c Yb9) (fun x hx=>hdg x (List.mem_cons_of_mem _ hx)) hnb hb.digit
     rw [←hd,decF_val,hd,Int.toNat_of_nonneg h3] at hst
     exact ⟨c,w,rfl,hst⟩
 rw [if_neg h2] at h
 by_cases h3:k=3
 · subst h3
   rw [if_pos rfl,Bool.and_eq_true,Bool.and_eq_true,decide_eq_true_iff,decide_eq_true_iff] at h
   obtain ⟨hl,hc,rfl⟩:=h
   match s,hl with
   | [c],_=>
     rw [if_neg Yao]
     exact ⟨c,[],rfl,Xgd hc fun _=>hb.slash⟩
 rw [if_neg h3] at h;cases h
theorem lex_valid: ∀(p:Nat) (s:List UInt8) (l:List TokD),T7 p s= .ok l→ ∀t∈l,V0 t=true:=by
 refine Xl5 (fun p l h t ht=>?_) fun p c s ih l h=>?_
 · rw [Xb9] at h;injection h with h;subst h;cases ht
 · have hi:=Xey c s
   cases hr:step (c::s) with
   | bad=>rw [Xez hr] at h;cases h
   | skip n=>rw [hr] at ih;rw [Xcx hr] at h;exact ih Yb9 l h
   | tok n k t v=>
     rw [hr] at ih hi
     rw [Xe0 hr] at h
     have ih:=ih Yb9
     simp only [St.len] at ih
     cases he:T7 (p+n) ((c::s).drop n) with
     | error q=>rw [he] at h;cases h
     | ok m=>
       rw [he] at h ih
       injection h with h
       subst h
       intro x hx
       rcases List.mem_cons.1 hx with rfl|hx
       · unfold V0
         cases hi with
         | name h1 h2=>
           rw [if_pos rfl,Bool.and_eq_true]
           refine ⟨Xql.2 ?_,rfl⟩
           rw [List.takeWhile_cons,if_pos (Uh h1)] at h2 ⊢
           exact ⟨c,_,rfl,h2,h1,Xa4⟩
         | num h1 h2=>
           unfold Xc1 at h2
           rw [Bool.and_eq_true,decide_eq_true_iff] at h2
           have h3:=h2.1
           simp;omega
         | sign h1 h2=>
           simp [h1]
       · exact ih m rfl x hx
end Go.Lx
namespace Go.Lx
end Go.Lx
namespace Go.Lx
def Xoj (cm:Bool) (c:UInt8) (s:List UInt8):Bool:=lineB c&&(cm||decide (c=47∧s.head?=some 47))
def gapF:Bool→List UInt8→Option Bool
 | cm,[]=>some cm
 | cm,c::s=>if !Xoj cm c s&& !spaceB c then none else gapF (Xoj cm c s) s
def placesF:Nat→Bool→List UInt8→List TokD→Prop
 | _,cm,s,[]=> ∃b,gapF cm s=some b
 | p,cm,s,t::l=> ∃a:Nat,t.at_=((p+a:Nat):Int)∧a≤s.length∧gapF cm (s.take a)=some false∧word t≠[]∧(∃r,s.drop a=word t++r∧placesF (p+a+(word t).length) false r l)
theorem Xnr {c:UInt8} (s:List UInt8) {cm:Bool} (hs:spaceB c=true) (hc:cm=true→c=10):gapF cm (c::s)=gapF false s:=by
 have h0:c≠47:=((Uc c).2.2.2 hs).2.2.2.2
 have:Xoj cm c s=false:=by
   unfold Xoj
   cases cm with
   | false=>rw [decide_eq_false (fun e=>h0 e.1)];simp
   | true=>rw [hc rfl];rfl
 rw [gapF,this,hs];rfl
theorem gap_in: ∀(w b:List UInt8),(∀x∈w,lineB x=true)→gapF true (w++b)=gapF true b
 | [],_,_=>rfl
 | c::w,b,h=>by
   have hc:=h c Yb9
   rw [List.cons_append,gapF]
   have:Xoj true c (w++b)=true:=by unfold Xoj;rw [hc];rfl
   rw [this]
   exact gap_in w b fun x hx=>h x (List.mem_cons_of_mem _ hx)
theorem Xpi (w b:List UInt8) (h: ∀x∈w,lineB x=true) (cm:Bool):gapF cm (47::47::w++b)=gapF true b:=by
 have:Xoj cm 47 (47::(w++b))=true:=by unfold Xoj;cases cm<;>rfl
 rw [List.cons_append,List.cons_append,gapF,this]
 have:=gap_in (47::w) b fun x hx=>by
   rcases List.mem_cons.1 hx with rfl|hx
   · decide
   · exact h x hx
 rw [List.cons_append] at this
 exact this
theorem Xbt {n:Nat} {cm cm':Bool} {a s:List UInt8} (hn:a.length=n) (h: ∀b,gapF cm (a++b)=gapF cm' b): ∀{p:Nat} {l:List TokD},placesF (p+n) cm' s l→placesF p cm (a++s) l
 | p,[],⟨b,hb⟩=>⟨b,by rw [h];exact hb⟩
 | p,t::l,⟨m,h1,h2,h3,h4,r,h5,h6⟩=>by
   refine ⟨n+m,by rw [h1,Nat.add_assoc],by rw [List.length_append];omega,?_,h4,r,?_,?_⟩
   · rw [List.take_append,List.take_of_length_le Yan,h,show n+m-a.length=m by omega];exact h3
   · rw [List.drop_append,List.drop_eq_nil_of_le Yan,show n+m-a.length=m by omega];exact h5
   · rw [show p+(n+m)=p+n+m by omega];exact h6
theorem lex_places: ∀(p:Nat) (s:List UInt8) (l:List TokD) (cm:Bool),T7 p s= .ok l→(cm=true→s=[]∨ ∃r,s=10::r)→placesF p cm s l:=by
 refine Xl5 (fun p l cm h _=>?_) fun p c s ih l cm h hcm=>?_
 · rw [Xb9] at h;injection h with h;subst h;exact ⟨cm,rfl⟩
 · have hi:=Xey c s
   cases hr:step (c::s) with
   | bad=>rw [Xez hr] at h;cases h
   | skip n=>
     rw [hr] at ih hi
     rw [Xcx hr] at h
     have ih:=ih Yb9
     simp only [St.len] at ih
     cases hi with
     | space hs=>
       refine Xbt (a:=[c]) (s:=s) (cm':=false) rfl (fun b=>Xnr b hs fun e=>?_) (ih l false h fun e=>by cases e)
       rcases hcm e with h2|⟨r,h2⟩
       · cases h2
       · injection h2
     | comment h1 h2=>
       subst h1
       obtain ⟨s',rfl⟩: ∃s',s=47::s':=by
         cases s with
         | nil=>cases h2
         | cons d s'=>exact ⟨s',by rw [show d=47 by simpa using h2]⟩
       have hcf:cm=false:=by
         cases cm with
         | false=>rfl
         | true=>
           rcases hcm rfl with h3|⟨r,h3⟩
           · cases h3
           · injection h3 with h4 _;cases h4
       subst hcf
       have ht:((47:UInt8)::47::s').takeWhile lineB=47::47::s'.takeWhile lineB:=by
         rw [List.takeWhile_cons,if_pos Yao,List.takeWhile_cons,if_pos Yao]
       have hsp:(47:UInt8)::47::s'=(47::47::s').takeWhile lineB++(47::47::s').drop ((47::47::s').takeWhile lineB).length:=by
         conv=>lhs;rw [←List.take_append_drop ((47::47::s').takeWhile lineB).length (47::47::s'),Xan]
       rw [hsp]
       refine Xbt (cm':=true) rfl (fun b=>?_) (ih l true h fun _=>?_)
       · rw [ht];exact Xpi _ b Xa4 false
       · cases hd:(47::47::s').drop ((47::47::s').takeWhile lineB).length with
         | nil=>exact .inl rfl
         | cons d r=>
           have:=Xhp d r hd
           unfold lineB at this
           rw [decide_eq_false_iff_not] at this
           right
           exact ⟨r,by rw [show d=10 from Classical.byContradiction fun e=>this e]⟩
   | tok n k t v=>
     rw [hr] at ih hi
     rw [Xe0 hr] at h
     have ih:=ih Yb9
     simp only [St.len] at ih
     have hcf:cm=false:=by
       cases cm with
       | false=>rfl
       | true=>
         rcases hcm rfl with h3|⟨r,h3⟩
         · cases h3
         · injection h3 with h4 _
           subst h4
           rw [Xdw Yao] at hr;cases hr
     subst hcf
     cases he:T7 (p+n) ((c::s).drop n) with
     | error q=>rw [he] at h;cases h
     | ok m=>
       rw [he] at h
       injection h with h
       subst h
       have ih:=ih m false he fun e=>by cases e
       have hw:word ⟨k,t,v,p⟩=(c::s).take n∧n=((c::s).take n).length:=by
         have hl:=Xab c s (by rw [hr];simp)
         rw [hr] at hl
         simp only [St.len] at hl
         refine ⟨?_,by rw [List.length_take];omega⟩
         unfold word
         cases hi with
         | name h1 h2=>rw [if_neg (show ¬(1:Int)=2 by decide),Xan]
         | num h1 h2=>
           rw [if_pos rfl,Xan]
           show decF ((S7 ((c::s).takeWhile digitB):Nat):Int).toNat=_
           rw [Int.toNat_natCast]
           unfold Xc1 at h2
           rw [Bool.and_eq_true,Bool.or_eq_true,decide_eq_true_iff,decide_eq_true_iff,decide_eq_true_iff] at h2
           refine val_dec _ Xa4 (fun e=>?_) h2.2
           have:=S1 (s:=s) h1
           rw [e] at this;simp at this
         | sign h1 h2=>rw [if_neg (show ¬(3:Int)=2 by decide)];rfl
       have hl:=Xab c s (by rw [hr];simp)
       rw [hr] at hl
       simp only [St.len] at hl
       refine ⟨0,by simp,Nat.zero_le _,rfl,?_,(c::s).drop n,?_,?_⟩
       · rw [hw.1];intro e
         have:=hw.2
         rw [e] at this;simp at this;omega
       · show (c::s).drop 0=_
         rw [hw.1,List.drop_zero,List.take_append_drop]
       · rw [hw.1,←hw.2,Nat.add_zero];exact ih
end Go.Lx
namespace Go.Lx
def Xl8 (n:Nat):List UInt8→Nat×Bool
 | []=>(n,true)
 | c::s=>if 1099511627776<10 * n+(c.toNat-48) then (0,false) else Xl8 (10 * n+(c.toNat-48)) s
theorem numR_ok: ∀(s:List UInt8) (n:Nat),n≤1099511627776→(Xl8 n s).2=decide (s.foldl (fun n c=>10 * n+(c.toNat-48)) n≤1099511627776)∧((Xl8 n s).2=true→(Xl8 n s).1=s.foldl (fun n c=>10 * n+(c.toNat-48)) n)
 | [],n,h=>⟨(decide_eq_true h).symm,fun _=>rfl⟩
 | c::s,n,h=>by
   rw [Xl8,List.foldl_cons]
   by_cases hb:1099511627776<10 * n+(c.toNat-48)
   · rw [if_pos hb]
     refine ⟨(decide_eq_false ?_).symm,fun e=>by cases e⟩
     have key: ∀(e:List UInt8) (n:Nat),n≤e.foldl (fun n c=>10 * n+(c.toNat-48)) n:=by
       intro e
       induction e with
       | nil=>intro n;exact Nat.le_refl _
       | cons c e ih=>intro n;exact Nat.le_trans Yan (ih (10 * n+(c.toNat-48)))
     have:=key s (10 * n+(c.toNat-48))
     omega
   · rw [if_neg hb];exact numR_ok s _ Yan
def Xmo (s:List UInt8):List TokD×Int×Int:=if 65536<s.length then ([],0,2) else match T7 0 s with
 | .ok l=>(l,0,0)
 | .error p=>([],p,30)
def Xad (l:List TokD):List UInt8×Int:=if l.all V0 then (joinF (l.map word),0) else ([],30)
theorem Xdx (s:List UInt8) (h:s.length≤65536):(∃l,T7 0 s= .ok l∧Xmo s=(l,0,0))∨ ∃p,T7 0 s= .error p∧Xmo s=([],(p:Int),30):=by
 unfold Xmo
 rw [if_neg Yan]
 cases hl:T7 0 s with
 | ok l=>exact .inl ⟨l,rfl,rfl⟩
 | error p=>exact .inr ⟨p,rfl,rfl⟩
theorem lex_len: ∀(p:Nat) (s:List UInt8) (l:List TokD),T7 p s= .ok l→(l.map fun t=>(word t).length).sum≤s.length:=by
 intro p s l h
 have hp:=lex_places p s l false h fun e=>by cases e
 clear h
 have key: ∀(l:List TokD) (p:Nat) (cm:Bool) (s:List UInt8),placesF p cm s l→(l.map fun t=>(word t).length).sum≤s.length:=by
   intro l
   induction l with
   | nil=>intro p cm s _;exact Nat.zero_le _
   | cons t l ih=>
     intro p cm s h
     obtain ⟨a,_,h2,_,_,r,h5,h6⟩:=h
     have:=ih _ _ _ h6
     have hl:=congrArg List.length h5
     rw [List.length_drop,List.length_append] at hl
     rw [List.map_cons,List.sum_cons]
     omega
 exact key l p false s hp
end Go.Lx
namespace Go.Lx
structure Run (p:UInt8→Bool) (s:List UInt8) (i L:Nat):Prop where
 le:i+L≤s.length
 in_: ∀j,(h:j<s.length)→i≤j→j<i+L→p s[j]=true
 out_:(h:i+L<s.length)→p s[i+L]=false
 sub:(s.take (i+L)).drop i=(s.drop i).takeWhile p
theorem Xcy (p:UInt8→Bool) (s:List UInt8) (i:Nat) (hi:i≤s.length):Run p s i ((s.drop i).takeWhile p).length:=by
 have hl:=Qc (p:=p) (s.drop i)
 rw [List.length_drop] at hl
 have hsub:(s.take (i+((s.drop i).takeWhile p).length)).drop i=(s.drop i).takeWhile p:=by
   rw [←Xan (p:=p) (s.drop i),List.drop_take,Nat.add_sub_cancel_left,List.length_take,Xan,Nat.min_eq_left (Qc _)]
   exact Xan _
 refine ⟨by omega,fun j h h1 h2=>?_,fun h=>?_,hsub⟩
 · have hm:s[j]∈(s.drop i).takeWhile p:=by
     rw [←hsub]
     refine List.mem_iff_getElem.2 ⟨j-i,by rw [List.length_drop,List.length_take];omega,?_⟩
     rw [List.getElem_drop,List.getElem_take]
     congr 1;omega
   exact Xa4 _ hm
 · refine Xhp (s:=s.drop i) _ (s.drop (i+((s.drop i).takeWhile p).length+1)) ?_
   rw [List.drop_drop]
   exact List.drop_eq_getElem_cons h
theorem Se {s:List UInt8} {i n:Nat} (hi:i<s.length) (h:step (s[i]::s.drop (i+1))= .skip n):T7 i (s.drop i)=T7 (i+n) (s.drop (i+n)):=by
 rw [List.drop_eq_getElem_cons hi,Xcx h,←List.drop_eq_getElem_cons hi,List.drop_drop]
theorem Ti {s:List UInt8} {i n:Nat} {k v:Int} {t:List UInt8} (hi:i<s.length) (h:step (s[i]::s.drop (i+1))= .tok n k t v):T7 i (s.drop i)=(T7 (i+n) (s.drop (i+n))).map (⟨k,t,v,i⟩:: ·):=by
 rw [List.drop_eq_getElem_cons hi,Xe0 h,←List.drop_eq_getElem_cons hi,List.drop_drop]
theorem Tj {s:List UInt8} {i:Nat} (hi:i<s.length) (h:step (s[i]::s.drop (i+1))= .bad):T7 i (s.drop i)= .error i:=by
 rw [List.drop_eq_getElem_cons hi,Xez h]
theorem Xbm {e:Except Nat (List TokD)} {acc:List TokD} {t:TokD}:(e.map (t:: ·)).map (acc++ ·)=e.map ((acc++[t])++ ·):=by
 cases e with
 | error _=>rfl
 | ok l=>show Except.ok _=Except.ok _;simp
theorem Xca {c:UInt8} {r:List UInt8} (h:V3 c=true):Ru ((c::r).takeWhile partB)=decide (((c::r).takeWhile partB).length≤32):=by
 have h1:(c::r).takeWhile partB=c::r.takeWhile partB:=by rw [List.takeWhile_cons,if_pos (Uh h)]
 have h2:=Xa4 (p:=partB) (s:=c::r)
 rw [h1] at h2 ⊢
 unfold Ru
 rw [List.all_eq_true.2 h2]
 simp [h]
theorem Xns {s:List UInt8} (h:Xc1 s=true):(Xl8 0 s).1=S7 s:=by
 have h1:=numR_ok s 0 Yao
 refine h1.2 (h1.1.trans ?_)
 unfold Xc1 at h
 rw [Bool.and_eq_true] at h
 exact h.1
end Go.Lx
