/- The representation of Go data by Lean data: slices, structs, strings, numbers. No program in sight. -/
import Derived.WalkKit
import Derived.ProofKit
import Derived.SizedLaws
import Derived.Deep.Slices
import Derived.Laws.AppendOwnNone
import Derived.WalkSpells
import Derived.IntWalk
import Derived.Deep.AppendLies
import Derived.Laws.CopyRow
import Derived.Maps.AppendAt
import Derived.Laws.MakeOwn
import Derived.Laws.BytesString
theorem Yaa {p:Prop} (h:p:=by decide +kernel):p:=h
theorem Yab {p:Prop} (h:p:=by repeat (exact Xq1)):p:=h
theorem Yac {p:Prop} (h:p:=by repeat (first|exact PartsO.nil|(apply PartsO.cons;exact rfl;exact inferInstance;exact rfl;exact rfl))):p:=h
theorem Yad {p:Prop} (h:p:=by (apply Xqr;exact Xjm rfl rfl rfl)):p:=h
theorem Yae {p:Prop} (h:p:=by (apply Xby;exact Xfl rfl rfl rfl)):p:=h
theorem Yaf {p:Prop} (h:p:=by (apply Vu;exact Vr (k:=0) rfl rfl rfl rfl)):p:=h
theorem Yag {p:Prop} (h:p:=by (apply Vu;exact Xfm rfl rfl)):p:=h
theorem Yah {p:Prop} (h:p:=by simp only [List.flatMap_cons,List.flatMap_nil,PutV.toks,List.length_append,List.length_cons,List.length_nil];omega):p:=h
theorem Yai {p:Prop} (h:p:=by (first|exact Xe rfl|exact Xj rfl|(apply V1;exact Xbe rfl rfl)|(apply Xef;exact Xpn rfl rfl))):p:=h
theorem Yaj {p:Prop} (h:p:=by (apply Xqr;exact Xgw rfl rfl rfl)):p:=h
theorem Yak {p:Prop} (h:p:=by (apply V1;exact Qe rfl rfl)):p:=h
theorem Yam {p:Prop} (h:p:=by (apply Xqd;exact Xol rfl)):p:=h
theorem Yan {p:Prop} (h:p:=by omega):p:=h
theorem Yao {p:Prop} (h:p:=by (first|exact Xe rfl|exact Xj rfl|exact Wk (b:=true) rfl (fun _=>rfl) (fun e=>by cases e)|exact Wk (b:=false) rfl (fun e=>by cases e) (fun _=>rfl)|exact Wi rfl rfl|(apply Vu;first|exact Tm rfl rfl|exact Vl (k:=0) rfl rfl rfl)|(apply V1;first|exact Qe rfl rfl|exact Sv rfl rfl)|exact Yae)):p:=h
theorem Yap {p:Prop} (h:p:=by (apply Vu;first|exact Vr (k:=0) rfl rfl rfl rfl|exact Vr (k:=1) rfl rfl rfl rfl)):p:=h
theorem Yaq {p:Prop} (h:p:=by (apply Xef;exact Xpn rfl rfl)):p:=h
theorem Yar {p:Prop} (h:p:=by decide):p:=h
theorem Yas {p:Prop} (h:p:=by (apply Xdc;exact Ri rfl rfl)):p:=h
theorem Yat {p:Prop} (h:p:=by kernel_rfl):p:=h
theorem Yau {p:Prop} (h:p:=by (apply Vu;exact Tm rfl rfl)):p:=h
theorem Yav {p:Prop} (h:p:=by rw [hT];first|done|simp only [List.flatMap_cons,List.flatMap_nil,List.append_nil,List.nil_append,List.append_assoc]):p:=h
theorem Yaw {p:Prop} (h:p:=by (apply Xsr;exact Xro rfl)):p:=h
theorem Yax {p:Prop} (h:p:=by (first|exact Xe rfl|(apply Vu;first|exact Vr (k:=0) rfl rfl rfl rfl|exact Vr (k:=2) rfl rfl rfl rfl)|exact Yad|exact Yak|(apply Xby;exact Xnt rfl rfl rfl)|(apply Xef;exact Xlp rfl rfl)|(apply Xlo;exact Xhg rfl rfl rfl)|exact Yam)):p:=h
theorem Yay {p:Prop} (h:p:=by (first|exact Xe rfl|exact Xj rfl|(apply V1;exact Sv rfl rfl))):p:=h
theorem Yaz {p:Prop} (h:p:=by (first|exact Xe rfl|exact Xj rfl|exact Yag|exact Yaj|(apply V1;exact Qf rfl rfl)|exact Yas)):p:=h
theorem Ya0 {p:Prop} (h:p:=by (first|exact Xe rfl|exact Xj rfl)):p:=h
theorem Ya1 {p:Prop} (h:p:=by (apply Vu;exact Vr (k:=1) rfl rfl rfl rfl)):p:=h
theorem Ya2 {p:Prop} (h:p:=by (first|exact Xe rfl|exact Xj rfl|(apply Vu;first|exact Tm rfl rfl|exact Vl (k:=0) rfl rfl rfl|exact Vl (k:=1) rfl rfl rfl)|(apply V1;first|exact Qe rfl rfl|exact Sv rfl rfl)|exact Yae|exact Yaw)):p:=h
theorem Ya3 {p:Prop} (h:p:=by exact .cons_cons _ (List.nil_sublist _)):p:=h
theorem Ya4 {p:Prop} (h:p:=by simp only [List.flatMap_cons,List.flatMap_nil,List.length_append,List.length_nil];omega):p:=h
theorem Ya5 {p:Prop} (h:p:=by (first|exact Xe rfl|(apply V1;exact Sv rfl rfl))):p:=h
theorem Ya6 {p:Prop} (h:p:=by (apply Xby;exact Xgx rfl rfl rfl)):p:=h
theorem Ya7 {p:Prop} (h:p:=by (apply Xik;exact Xcw rfl rfl Yac)):p:=h
theorem Ya8 {p:Prop} (h:p:=by (apply Vu;exact Vr (k:=1) rfl rfl (by assumption) rfl)):p:=h
theorem Ya9 {p:Prop} (h:p:=by (apply Xqr;first|exact Xjm rfl rfl rfl|exact Xgw rfl rfl rfl)):p:=h
theorem Yba {p:Prop} (h:p:=by (first|exact Xe rfl|exact Xj rfl|exact Yak)):p:=h
theorem Ybb {p:Prop} (h:p:=by (first|exact Xe rfl|exact Xj rfl|(apply Vu;first|exact Tm rfl rfl|exact Vl (k:=0) rfl rfl rfl|exact Vl (k:=1) rfl rfl rfl)|exact Yak|exact Yae|exact Yaw)):p:=h
theorem Ybc {p:Prop} (h:p:=by (apply V1;exact Qf rfl rfl)):p:=h
theorem Ybd {p:Prop} (h:p:=by (apply Vu;first|exact Xfm rfl rfl|exact Vr (k:=0) rfl rfl rfl rfl)):p:=h
theorem Ybe {p:Prop} (h:p:=by (apply V1;first|exact Qe rfl rfl|exact Sv rfl rfl)):p:=h
theorem Ybf {p:Prop} (h:p:=by simp only [List.length_append,List.length_cons,List.length_nil,Nat.zero_add,List.flatMap_append,List.flatMap_cons,List.flatMap_nil,List.append_nil];first|exact .refl _|exact .cons _ (.refl _)|exact .cons _ (.cons _ (.refl _))):p:=h
theorem Ybg {p:Prop} (h:p:=by (apply Vu;exact Vl (k:=1) rfl rfl rfl)):p:=h
theorem Ybh {p:Prop} (h:p:=by rw [List.length_append];omega):p:=h
theorem Ybi {p:Prop} (h:p:=by (apply V1;exact Xbe rfl rfl)):p:=h
theorem Ybj {p:Prop} (h:p:=by repeat (exact Xql)):p:=h
theorem Ybk {p:Prop} (h:p:=by show List.Sublist (Vv b _ _ (A++[.s [99,114,105,116,101,114,105,111,110],.nm x.name,.s [102,114,111,109],.i x.low,.s [116,111],.i x.high,.s [115,116,101,112],.i x.step].flatMap PutV.toks++Xhk x)) _;rw [hh];first|exact List.sublist_append_left _ _|exact List.Sublist.refl _):p:=h
theorem Ybm {p:Prop} (h:p:=by (apply Xef;exact Xlp rfl rfl)):p:=h
theorem Ybn {p:Prop} (h:p:=by simp):p:=h
theorem Ybo {p:Prop} (h:p:=by (apply V1;exact Xdg rfl rfl)):p:=h
theorem Ybp {p:Prop} (h:p:=by (apply V1;exact Xqe inferInstance rfl rfl)):p:=h
theorem Ybq {p:Prop} (h:p:=by repeat (first|exact List.nil_sublist _|apply List.Sublist.cons_cons)):p:=h
theorem Ybr {p:Prop} (h:p:=by (apply Vu;exact Vr (k:=0) rfl rfl (by assumption) rfl)):p:=h
theorem Ybs {p:Prop} (h:p:=by repeat (first|exact List.nil_sublist _|apply List.Sublist.cons_cons|apply List.Sublist.cons)):p:=h
theorem Ybt {p:Prop} (h:p:=by (first|exact Xe rfl|exact Yaw)):p:=h
theorem Ybu {p:Prop} (h:p:=by (first|exact Xe rfl|exact Xj rfl|exact Wk (b:=true) rfl (fun _=>rfl) (fun e=>by cases e)|exact Wk (b:=false) rfl (fun e=>by cases e) (fun _=>rfl)|exact Yap|exact Yad|(apply V1;exact Xav rfl rfl))):p:=h
theorem Ybv {p:Prop} (h:p:=by (first|exact Xj rfl|exact Yak)):p:=h
theorem Ybw {p:Prop} (h:p:=by exact Wi rfl rfl):p:=h
theorem Ybx {p:Prop} (h:p:=by (first|exact Xe rfl|exact Xj rfl|exact Yaq)):p:=h
theorem Yby {p:Prop} (h:p:=by (first|exact Xe rfl|exact Xj rfl|exact Wk (b:=true) rfl (fun _=>rfl) (fun e=>by cases e)|exact Wk (b:=false) rfl (fun e=>by cases e) (fun _=>rfl)|exact Yap|exact Yad|exact Ybc)):p:=h
theorem Ybz {p:Prop} (h:p:=by (apply V1;first|exact Qe rfl rfl|exact Xdg rfl rfl|exact Sv rfl rfl)):p:=h
theorem Yb0 {p:Prop} (h:p:=by (first|exact Xe rfl|exact Yag|exact Yaj|exact Yas)):p:=h
theorem Yb1 {p:Prop} (h:p:=by (apply Vu;exact Xjc rfl rfl)):p:=h
theorem Yb2 {p:Prop} (h:p:=by (first|exact Xe rfl|exact Xj rfl|(apply Vu;first|exact Vr (k:=0) rfl rfl rfl rfl|exact Tm rfl rfl|exact Vl (k:=0) rfl rfl rfl)|exact Yad|(apply V1;first|exact Qe rfl rfl|exact Qf rfl rfl|exact Sv rfl rfl)|(apply Xby;first|exact Xfl rfl rfl rfl|exact Xgx rfl rfl rfl)|exact Yaw)):p:=h
theorem Yb3 {p:Prop} (h:p:=by (apply Vu;exact Vr (k:=2) rfl rfl rfl rfl)):p:=h
theorem Yb4 {p:Prop} (h:p:=by exact Xn9 (k:=0) rfl rfl):p:=h
theorem Yb5 {p:Prop} (h:p:=by (first|exact Xj rfl|exact Yag|exact Yaj|exact Ybc)):p:=h
theorem Yb6 {p:Prop} (h:p:=by (first|exact Xe rfl|exact Ya1|exact Yad|exact Yak|exact Yaq)):p:=h
theorem Yb7 {p:Prop} (h:p:=by (apply Vu;first|exact Vr (k:=0) rfl rfl rfl rfl|exact Tm rfl rfl)):p:=h
theorem Yb8 {p:Prop} (h:p:=by (first|exact Xe rfl|exact Xj rfl|exact Wk (b:=true) rfl (fun _=>rfl) (fun e=>by cases e)|exact Wk (b:=false) rfl (fun e=>by cases e) (fun _=>rfl)|(apply V1;first|exact Qe rfl rfl|exact Xbe rfl rfl|exact Sv rfl rfl)|(apply Xlo;exact Xhg rfl rfl rfl))):p:=h
theorem Yb9 {p:Prop} (h:p:=by (apply Vu;exact Vr (k:=3) rfl rfl rfl rfl)):p:=h
theorem Yca {p:Prop} (h:p:=by (apply Xik;exact Xcw rfl rfl (by repeat (exact PartsO.nil)))):p:=h
theorem Ycb {p:Prop} (h:p:=by rw [h0];simp):p:=h
theorem Ycc {p:Prop} (h:p:=by (first|exact Xe rfl|exact Yad|exact Yam)):p:=h
theorem Ycd {p:Prop} (h:p:=by show List.Sublist (Vv b _ _ (B0++Xhl x.cut)) _;rw [hh];first|exact List.sublist_append_left _ _|exact List.Sublist.refl _):p:=h
theorem Yce {p:Prop} (h:p:=by rintro _ _ ⟨rfl,rfl⟩;exact ⟨rfl,_,rfl⟩):p:=h
theorem Ycf {p:Prop} (h:p:=by subst hA;exact List.Sublist.refl _):p:=h
theorem Ycg {p:Prop} (h:p:=by rw [h1];simp):p:=h
theorem Ych {p:Prop} (h:p:=by (apply Vu;exact Vl (k:=0) rfl rfl rfl)):p:=h
theorem Yci {p:Prop} (h:p:=by rw [List.length_drop,List.length_cons];omega):p:=h
theorem Ycj {p:Prop} (h:p:=by (first|exact Xe rfl|exact Xj rfl|exact Wk (b:=true) rfl (fun _=>rfl) (fun e=>by cases e)|exact Wk (b:=false) rfl (fun e=>by cases e) (fun _=>rfl)|(apply Vu;exact Vl (k:=5) rfl rfl rfl)|exact Yaw)):p:=h
theorem Yck {p:Prop} (h:p:=by (first|exact Xe rfl|exact Xj rfl|exact Wk (b:=true) rfl (fun _=>rfl) (fun e=>by cases e)|exact Wk (b:=false) rfl (fun e=>by cases e) (fun _=>rfl)|exact Yap|exact Yad|(apply V1;exact Xaw rfl rfl))):p:=h
theorem Ycm {p:Prop} (h:p:=by (first|exact Xe rfl|exact Xj rfl|(apply V1;exact Xdh rfl rfl))):p:=h
theorem Ycn {p:Prop} (h:p:=by (apply V1;exact Sv rfl rfl)):p:=h
theorem Yco {p:Prop} (h:p:=by (apply Vu;first|exact Tm rfl rfl|exact Vl (k:=0) rfl rfl rfl)):p:=h
theorem Ycp {p:Prop} (h:p:=by (first|exact Xe rfl|exact Xj rfl|exact Ya1|exact Yak|exact Ya6)):p:=h
theorem Ycq {p:Prop} (h:p:=by (apply V1;first|exact Qf rfl rfl|exact Xbe rfl rfl)):p:=h
theorem Ycr {p:Prop} (h:p:=by repeat (exact List.nil_sublist _)):p:=h
theorem Ycs {p:Prop} (h:p:=by (first|exact Xe rfl|exact Xj rfl|exact Wk (b:=true) rfl (fun _=>rfl) (fun e=>by cases e)|exact Wk (b:=false) rfl (fun e=>by cases e) (fun _=>rfl)|(apply V1;exact Xav rfl rfl))):p:=h
theorem Yct {p:Prop} (h:p:=by (first|exact Xe rfl|exact Xj rfl|exact Wk (b:=true) rfl (fun _=>rfl) (fun e=>by cases e)|exact Wk (b:=false) rfl (fun e=>by cases e) (fun _=>rfl)|exact Yap|exact Yad|exact Ybi)):p:=h
theorem Ycu {p:Prop} (h:p:=by (first|exact Xe rfl|exact Yak|exact Yaq)):p:=h
theorem Ycv {p:Prop} (h:p:=by (first|exact Xe rfl|exact Xj rfl|exact Wk (b:=true) rfl (fun _=>rfl) (fun e=>by cases e)|exact Wk (b:=false) rfl (fun e=>by cases e) (fun _=>rfl)|exact Yap|exact Yad)):p:=h
theorem Ycw {p:Prop} (h:p:=by (first|exact Xe rfl|exact Yaf|exact Yad|exact Ya7|exact Yam)):p:=h
theorem Ycx {p:Prop} (h:p:=by (first|exact Xe rfl|(apply Vu;exact Vr (k:=6) rfl rfl rfl rfl)|exact Yad|exact Yaw)):p:=h
theorem Ycy {p:Prop} (h:p:=by (first|(apply Vu;exact Rq rfl rfl)|exact Yak|exact Yae)):p:=h
theorem Ycz {p:Prop} (h:p:=by (first|exact Xe rfl|exact Xj rfl|exact Yak|exact Yaq)):p:=h
theorem Yc0 {p:Prop} (h:p:=by rw [h2];simp):p:=h
theorem Yc1 {p:Prop} (h:p:=by simp [Rh]):p:=h
theorem Yc2 {p:Prop} (h:p:=by (apply Vu;first|exact Xfm rfl rfl|exact Tm rfl rfl)):p:=h
theorem Yc3 {p:Prop} (h:p:=by simp [Xd8,Uq,hk1,hk2,hk5]):p:=h
theorem Yc4 {p:Prop} (h:p:=by (apply Vu;first|exact Vl (k:=0) rfl rfl rfl|exact Vl (k:=1) rfl rfl rfl)):p:=h
theorem Yc5 {p:Prop} (h:p:=by (first|exact Xe rfl|exact Xj rfl|exact Ybw|exact Yag|exact Yaj|exact Yas)):p:=h
theorem Yc6 {p:Prop} (h:p:=by (apply Vu;exact Vl (k:=2) rfl rfl rfl)):p:=h
theorem Yc7 {p:Prop} (h:p:=by (apply Vu;first|exact Vr (k:=0) rfl rfl rfl rfl|exact Vr (k:=1) rfl rfl rfl rfl|exact Vl (k:=0) rfl rfl rfl|exact Vl (k:=1) rfl rfl rfl)):p:=h
theorem Yc8 {p:Prop} (h:p:=by exact .cons_cons _ (.cons _ (.refl _))):p:=h
theorem Yc9 {p:Prop} (h:p:=by (apply V1;first|exact Qe rfl rfl|exact Xdg rfl rfl)):p:=h
theorem Yda {p:Prop} (h:p:=by (first|exact Xe rfl|exact Xj rfl|exact Wk (b:=false) rfl (fun e=>by cases e) (fun _=>rfl)|exact Yaf|exact Yad|exact Ybo|exact Yaq|exact Yam)):p:=h
theorem Ydb {p:Prop} (h:p:=by (first|exact Xe rfl|exact Xj rfl|exact Wk (b:=false) rfl (fun e=>by cases e) (fun _=>rfl)|exact Ybw|exact Yaf|exact Yad|exact Ybi|exact Yam)):p:=h
theorem Ydc {p:Prop} (h:p:=by (first|exact Xe rfl|exact Xj rfl|exact Wk (b:=true) rfl (fun _=>rfl) (fun e=>by cases e)|exact Yaf|exact Yad|exact Ybo|exact Yaq|exact Yam)):p:=h
theorem Ydd {p:Prop} (h:p:=by (first|exact Xe rfl|exact Yag|exact Yaj|exact Yaq)):p:=h
theorem Yde {p:Prop} (h:p:=by rw [h3];simp):p:=h
theorem Ydf {p:Prop} (h:p:=by (apply Xlo;exact Xhg rfl rfl rfl)):p:=h
theorem Ydg {p:Prop} (h:p:=by (first|exact Xe rfl|exact Xj rfl|exact Yag|(apply V1;first|exact Xav rfl rfl|exact Qe rfl rfl|exact Sv rfl rfl)|exact Yae)):p:=h
theorem Ydh {p:Prop} (h:p:=by (first|exact Xe rfl|exact Ybd|exact Ya9|exact Ybc|exact Yae|exact Yam)):p:=h
theorem Ydi {p:Prop} (h:p:=by simpa using h2):p:=h
theorem Ydj {p:Prop} (h:p:=by cases a;cases b;simp):p:=h
theorem Ydk {p:Prop} (h:p:=by exact Xbz (k:=0) (qs:=Xch { t with at_:=at_ }) rfl rfl rfl):p:=h
theorem Ydm {p:Prop} (h:p:=by (first|exact Xe rfl|exact Xj rfl|exact Yag|exact Ybe|exact Yae)):p:=h
theorem Ydn {p:Prop} (h:p:=by subst e;rfl):p:=h
theorem Ydo {p:Prop} (h:p:=by (first|exact Xe rfl|exact Yad)):p:=h
theorem Ydp {p:Prop} (h:p:=by first|exact .cons _ (.cons _ (.refl _))|exact .cons _ (.refl _)):p:=h
theorem Ydq {p:Prop} (h:p:=by rw [h4];simp):p:=h
theorem Ydr {p:Prop} (h:p:=by (first|exact Xe rfl|exact Xj rfl|exact Ybd|exact Ya9|exact Yae|(apply Rm;exact Xil rfl rfl rfl)|exact Yaw|exact Yam)):p:=h
theorem Yds {p:Prop} (h:p:=by show List.Sublist (Vv b _ _ (B2++plT x)) _;rw [hh];first|exact List.sublist_append_left _ _|exact List.Sublist.refl _):p:=h
theorem Ydt {p:Prop} (h:p:=by simpa using hi):p:=h
theorem Ydu {p:Prop} (h:p:=by (first|exact Wk (b:=true) rfl (fun _=>rfl) (fun e=>by cases e)|exact Wk (b:=false) rfl (fun e=>by cases e) (fun _=>rfl))):p:=h
theorem Ydv {p:Prop} (h:p:=by (first|exact Xe rfl|exact Xj rfl|exact Wk (b:=false) rfl (fun e=>by cases e) (fun _=>rfl)|exact Ybw|exact Yaf)):p:=h
theorem Ydw {p:Prop} (h:p:=by (first|exact Xj rfl|(apply Vu;first|exact Xjc rfl rfl|exact Vr (k:=1) rfl rfl rfl rfl)|exact Yad|exact Ybc)):p:=h
theorem Ydx {p:Prop} (h:p:=by (first|exact Xe rfl|exact Xj rfl|exact Wk (b:=true) rfl (fun _=>rfl) (fun e=>by cases e)|exact Ybw|exact Yaf)):p:=h
theorem Ydy {p:Prop} (h:p:=by (first|exact Xj rfl|exact Yaf|exact Yad)):p:=h
theorem Ydz {p:Prop} (h:p:=by simp [row]):p:=h
theorem Yd0 {p:Prop} (h:p:=by (first|exact Xe rfl|exact Yag|exact Yad|(apply V1;exact Xnp rfl rfl)|(apply Xby;exact Xgy rfl rfl rfl))):p:=h
theorem Yd1 {p:Prop} (h:p:=by (first|exact Xe rfl|exact Ybo|exact Ybm)):p:=h
theorem Yd2 {p:Prop} (h:p:=by (first|exact Xe rfl|exact Ybg|exact Yad)):p:=h
theorem Yd3 {p:Prop} (h:p:=by exact Xkw rfl (.cella (k:=1) rfl rfl rfl rfl inferInstance rfl) (.tmp rfl) (List.nil_sublist _) ⟨rfl,rfl⟩):p:=h
theorem Yd4 {p:Prop} (h:p:=by exact Xkw rfl (.cella (k:=5) rfl rfl rfl rfl inferInstance rfl) (.tmp rfl) (List.nil_sublist _) ⟨rfl,rfl⟩):p:=h
theorem Yd5 {p:Prop} (h:p:=by rw [h0];exact hj):p:=h
theorem Yd6 {p:Prop} (h:p:=by (first|exact Xe rfl|exact Ya8|exact Yad|(apply V1;first|exact Xaw rfl rfl|exact Sv rfl rfl)|exact Yam)):p:=h
theorem Yd7 {p:Prop} (h:p:=by exact Nat.zero_lt_succ _):p:=h
theorem Yd8 {p:Prop} (h:p:=by (apply Vu;first|exact Vr (k:=0) rfl rfl rfl rfl|exact Tm rfl rfl|exact Vl (k:=1) rfl rfl rfl)):p:=h
theorem Yd9 {p:Prop} (h:p:=by (apply V1;first|exact Xav rfl rfl|exact Qf rfl rfl)):p:=h
theorem Yea {p:Prop} (h:p:=by (apply Vu;exact Vr (k:=2) rfl rfl (by assumption) rfl)):p:=h
theorem Yeb {p:Prop} (h:p:=by rw [List.append_assoc];exact hG):p:=h
theorem Yec {p:Prop} (h:p:=by exact .cons _ (.cons_cons _ (List.nil_sublist _))):p:=h
theorem Yed {p:Prop} (h:p:=by (apply Xef;exact Xqs rfl rfl)):p:=h
theorem Yee {p:Prop} (h:p:=by (first|exact Xe rfl|(apply V1;first|exact Xbe rfl rfl|exact Xdg rfl rfl)|exact Ybm|exact Ydf)):p:=h
namespace Go.Kx
open Go.RowKit
structure Enc (α:Type) where
 size:Nat
 bytes:Nat
 rel:(Nat→Prop)→World→List Value→α→Prop
 len: ∀{S w cs a},rel S w cs a→cs.length=size
 mono: ∀{S S':Nat→Prop} {w w':World} {cs:List Value} {a:α},rel S w cs a→(∀b,S b→b<w.heap.size→S' b∧w'.heap[b]?=w.heap[b]?)→rel S' w' cs a
structure Sl {α:Type} (E:Enc α) (S:Nat→Prop) (w:World) (oa:Option Addr) (n c:Nat) (l:List α):Prop where
 length:l.length=n
 cap:n≤c
 capMax:c≤maxLen
 bytes:n * E.bytes≤140737488355328
 nil:oa=none→c=0
 elem: ∀i (h:i<l.length),∃b off cs,oa=some ⟨b,off,none⟩∧S b∧b<w.heap.size∧cs.length=E.size∧(∀j,j<E.size→w.cell? ⟨b,off+i * E.size+j,none⟩=cs[j]?)∧E.rel S w cs l[i]
def All:Nat→Prop:=fun _=>True
def eByte:Enc UInt8 where
 size:=1
 bytes:=1
 rel _ _ cs a:=cs=[.int .u8 a.toNat]
 len h:=by subst h;rfl
 mono h _:=h
def eBool:Enc Bool where
 size:=1
 bytes:=1
 rel _ _ cs a:=cs=[.bool a]
 len h:=by subst h;rfl
 mono h _:=h
theorem Sl.mono {α:Type} {E:Enc α} {S S':Nat→Prop} {w w':World} {oa:Option Addr} {n c:Nat} {l:List α} (h:Sl E S w oa n c l)
   (hk: ∀b,S b→b<w.heap.size→S' b∧w'.heap[b]?=w.heap[b]?):Sl E S' w' oa n c l:=by
 refine ⟨h.length,h.cap,h.capMax,h.bytes,h.nil,fun i hi=>?_⟩
 obtain ⟨b,off,cs,ho,hS,hb,hl,hc,hr⟩:=h.elem i hi
 obtain ⟨hS',hw⟩:=hk b hS hb
 refine ⟨b,off,cs,ho,hS',?_,hl,fun j hj=>?_,E.mono hr hk⟩
 · have:w.heap[b]?≠none:=by rw [Array.getElem?_eq_getElem hb];simp
   rw [←hw] at this
   exact Nat.lt_of_not_le fun h=>this (Array.getElem?_eq_none h)
 · rw [←hc j hj];exact World.cell?_of_block (w:=w) hw
def eSl {α:Type} (E:Enc α):Enc (List α) where
 size:=1
 bytes:=24
 rel S w cs l:= ∃oa n c,cs=[.slice oa n c]∧Sl E S w oa n c l
 len h:=by obtain ⟨_,_,_,rfl,_⟩:=h;rfl
 mono h hk:=by
   obtain ⟨oa,n,c,rfl,h⟩:=h
   exact ⟨oa,n,c,rfl,h.mono hk⟩
def ePair {α β:Type} (E:Enc α) (F:Enc β):Enc (α×β) where
 size:=E.size+F.size
 bytes:=E.bytes+F.bytes
 rel S w cs x:= ∃c d,cs=c++d∧E.rel S w c x.1∧F.rel S w d x.2
 len h:=by obtain ⟨c,d,rfl,h1,h2⟩:=h;simp [E.len h1,F.len h2]
 mono h hk:=by
   obtain ⟨c,d,rfl,h1,h2⟩:=h
   exact ⟨c,d,rfl,E.mono h1 hk,F.mono h2 hk⟩
theorem Xbc {S:Nat→Prop} {w w':World} (h:Below w.heap.size w w'): ∀b,S b→b<w.heap.size→S b∧w'.heap[b]?=w.heap[b]?:=fun b hS hb=>⟨hS,h.block b hb⟩
theorem Sl.below {α:Type} {E:Enc α} {S:Nat→Prop} {w w':World} {oa:Option Addr} {n c:Nat} {l:List α} (h:Sl E S w oa n c l) (hb:Below w.heap.size w w'):Sl E S w' oa n c l:=h.mono (Xbc hb)
structure Wr where
 at_:Int
 data:List UInt8
def eWr:Enc Wr where
 size:=2
 bytes:=32
 rel S w cs x:= ∃oa n c,cs=[.int .i64 x.at_,.slice oa n c]∧(-9223372036854775808≤x.at_∧x.at_≤9223372036854775807)∧Sl eByte S w oa n c x.data
 len h:=by obtain ⟨_,_,_,rfl,_⟩:=h;rfl
 mono h hk:=by
   obtain ⟨oa,n,c,rfl,h,h2⟩:=h
   exact ⟨oa,n,c,rfl,h,h2.mono hk⟩
abbrev Bytes:=List UInt8
structure Disk where
 secs:List Bytes
 pend:List Wr
 left:Int
 stopped:Bool
structure DiskAt (S:Nat→Prop) (w:World) (sa:Option Addr) (sn sc:Nat) (pa:Option Addr) (pn pc:Nat) (D:Disk):Prop where
 secs:Sl (eSl eByte) S w sa sn sc D.secs
 pend:Sl eWr S w pa pn pc D.pend
 lo: -9223372036854775808≤D.left
 hi:D.left≤9223372036854775807
theorem DiskAt.mono {S S':Nat→Prop} {w w':World} {sa:Option Addr} {sn sc:Nat} {pa:Option Addr} {pn pc:Nat} {D:Disk} (h:DiskAt S w sa sn sc pa pn pc D)
   (hk: ∀b,S b→b<w.heap.size→S' b∧w'.heap[b]?=w.heap[b]?):DiskAt S' w' sa sn sc pa pn pc D:=
 ⟨h.secs.mono hk,h.pend.mono hk,h.lo,h.hi⟩
theorem DiskAt.below {S:Nat→Prop} {w w':World} {sa:Option Addr} {sn sc:Nat} {pa:Option Addr} {pn pc:Nat} {D:Disk} (h:DiskAt S w sa sn sc pa pn pc D) (hb:Below w.heap.size w w'):
   DiskAt S w' sa sn sc pa pn pc D:=h.mono (Xbc hb)
def SomeBool (w:World) (e:Ending) (w':World):Prop:= ∃b,e= .returned (.bool b)∧Below w.heap.size w w'
theorem SomeBool.mk {w w':World} {b:Bool} (h:Below w.heap.size w w'):SomeBool w (.returned (.bool b)) w':=⟨b,rfl,h⟩
def Up (S:Nat→Prop) (w:World):Nat→Prop:=fun b=>S b∨w.heap.size≤b
theorem Sl.zero {α:Type} (E:Enc α) (S:Nat→Prop) (w:World):Sl E S w none 0 0 []:=
 ⟨rfl,Nat.le_refl _,by simp [maxLen],by simp,fun _=>rfl,fun i h=>absurd h (Nat.not_lt_zero _)⟩
def zeroDisk:Disk:=⟨[],[],0,false⟩
theorem DiskAt.zero (S:Nat→Prop) (w:World):DiskAt S w none 0 0 none 0 0 zeroDisk:=⟨Sl.zero _ _ _,Sl.zero _ _ _,by decide,by decide⟩
def RetDisk (S:Nat→Prop) (w:World) (r:Disk×Int) (e:Ending) (w':World):Prop:=
 ∃sa sn sc pa pn pc,e= .returned (.tuple #[.agg #[.slice sa sn sc,.slice pa pn pc,.int .i64 r.1.left,.bool r.1.stopped],.int .i64 r.2])∧DiskAt (Up S w) w' sa sn sc pa pn pc r.1∧Below w.heap.size w w'
theorem RetDisk.zero {S:Nat→Prop} {w w':World} {err:Int} {r:Disk×Int} (hr:r=(zeroDisk,err)) (hb:Below w.heap.size w w'):
   RetDisk S w r (.returned (.tuple #[.agg #[.slice none 0 0,.slice none 0 0,.int .i64 0,.bool false],.int .i64 err])) w':=by
 subst hr
 exact ⟨none,0,0,none,0,0,rfl,DiskAt.zero _ _,hb⟩
theorem RetDisk.of {S:Nat→Prop} {w w':World} {err:Int} {r:Disk×Int} {D:Disk} {sa:Option Addr} {sn sc:Nat} {pa:Option Addr} {pn pc:Nat} {left:Int} {st:Bool} (hr:r=(D,err)) (hl:D.left=left) (hst:D.stopped=st)
   (hb:Below w.heap.size w w') (h:Below w.heap.size w w'→DiskAt (Up S w) w' sa sn sc pa pn pc D):
   RetDisk S w r (.returned (.tuple #[.agg #[.slice sa sn sc,.slice pa pn pc,.int .i64 left,.bool st],.int .i64 err])) w':=by
 subst hr hl hst
 exact ⟨sa,sn,sc,pa,pn,pc,rfl,h hb,hb⟩
end Go.Kx
namespace Go.Kx
open Go.RowKit Go.ChangeShapes Go.WideShapes Go.ChangeAt
def Reads (P:Program) {α:Type} (t:TypeId) (E:Enc α):Prop:=
 ∀(H:Type) (enc:TypeId×Value→H) (w:World) (fuel:Nat) (cs:List Value) (x:DataW H×List MemPlace),
   DataW.trod enc P w 0 (fun _=>true) true fuel t cs=some x→(∀n∈x.1.weights P t,n≤reachBytes)→ ∃a,E.rel (fun _=>True) w cs a
theorem Xdf {w:World} {a:Addr} {v:Value} (h:w.cell? a=some v):a.block<w.heap.size∧a.spot=none:=by
 unfold World.cell? at h
 split at h
 · rename_i he
   refine ⟨(Array.getElem?_eq_some_iff.1 he).1,?_⟩
   split at h
   · cases h
   · rename_i hs;simpa using hs
 · cases h
theorem Xku {P:Program} {t:TypeId} (ht:P.underlying t=some .bool):Reads P t eBool:=by
 intro H enc w fuel cs x h _
 obtain ⟨b,rfl,_⟩:=DataW.trod_bool ht h
 exact ⟨b,rfl⟩
theorem Rt {H:Type} {P:Program} {e:TypeId}: ∀{l:List (DataW H)} {d:DataW H},d∈l→ ∀n∈d.weights P e,n∈DataW.weightsAll P e l
 | d'::r,d,hd,n,hn=>by
   simp only [DataW.weightsAll,List.mem_append]
   rcases List.mem_cons.1 hd with rfl|h
   · exact Or.inl hn
   · exact Or.inr (Rt h n hn)
theorem Xii {α:Type} {n:Nat} {p:Nat→α→Prop} (h: ∀i,i<n→ ∃x,p i x): ∃l:List α,l.length=n∧ ∀i (hi:i<l.length),p i l[i]:=by
 induction n with
 | zero=>exact ⟨[],rfl,fun i hi=>absurd hi (Nat.not_lt_zero _)⟩
 | succ n ih=>
   obtain ⟨l,hl,hp⟩:=ih fun i hi=>h i (Nat.lt_succ_of_lt hi)
   obtain ⟨x,hx⟩:=h n (Nat.lt_succ_self n)
   refine ⟨l++[x],by simp [hl],fun i hi=>?_⟩
   by_cases hlt:i<l.length
   · rw [List.getElem_append_left hlt];exact hp i hlt
   · have:i=n:=by simp at hi;omega
     subst this
     rw [List.getElem_append_right Yan]
     simpa [hl] using hx
def ArgsIn (P:Program) (W:World) (ts:List TypeId) (vs:List Value):Prop:=
 ∃(base:Nat) (H:Type) (enc:TypeId×Value→H) (ds:List (DataW H)) (p:List MemPlace),(∀(j:Nat) t v,ts[j]?=some t→vs[j]?=some v→Value.okWide P W .any base t v)∧
   DataW.TrodAll enc P W 0 (fun _=>true) true ts vs ds p∧ ∀n∈DataW.weightsEach P ts ds,n≤reachBytes
def ArgIn (P:Program) (W:World) (t:TypeId) (v:Value):Prop:=
 ∃(base:Nat) (H:Type) (enc:TypeId×Value→H) (d:DataW H) (p:List MemPlace),Value.okWide P W .any base t v∧DataW.Trod enc P W 0 (fun _=>true) true t v d p∧ ∀n∈d.weights P t,n≤reachBytes
theorem ArgsIn.cons {P:Program} {W:World} {t:TypeId} {ts:List TypeId} {vs:List Value} (h:ArgsIn P W (t::ts) vs): ∃v vs',vs=v::vs'∧ArgIn P W t v∧ArgsIn P W ts vs':=by
 obtain ⟨base,H,enc,ds,p,hok,hA,hw⟩:=h
 match vs,ds,hA with
 | v::vs',d::ds',⟨q,q',h1,h2,_⟩=>
   refine ⟨v,vs',rfl,⟨base,H,enc,d,q,hok 0 t v rfl rfl,h1,fun n hn=>hw n ?_⟩,⟨base,H,enc,ds',q',fun j t' v' h3 h4=>hok (j+1) t' v' h3 h4,h2,fun n hn=>hw n ?_⟩⟩
   · simp only [DataW.weightsEach,List.mem_append];exact Or.inl hn
   · simp only [DataW.weightsEach,List.mem_append];exact Or.inr hn
theorem ArgsIn.nil {P:Program} {W:World} {vs:List Value} (h:ArgsIn P W [] vs):vs=[]:=by
 obtain ⟨base,H,enc,ds,p,hok,hA,hw⟩:=h
 match vs,ds,hA with
 | [],[],_=>rfl
theorem ArgIn.int {P:Program} {W:World} {t:TypeId} {v:Value} {k:IntKind} (h:ArgIn P W t v) (ht:P.underlying t=some (.int k)): ∃n:Int,v= .int k n∧k.min≤n∧n≤k.max:=by
 obtain ⟨base,H,enc,d,p,hok,ht',hw⟩:=h
 obtain ⟨n,rfl,_,_,hwf⟩:=open_int ht hok ht'
 simp only [Lit.wf,Bool.and_eq_true,decide_eq_true_eq] at hwf
 exact ⟨n,rfl,hwf.1,hwf.2⟩
theorem ArgIn.bool {P:Program} {W:World} {t:TypeId} {v:Value} (h:ArgIn P W t v) (ht:P.underlying t=some .bool): ∃b:Bool,v= .bool b:=by
 obtain ⟨base,H,enc,d,p,hok,_⟩:=h
 exact okWide_bool ht hok
theorem ArgIn.slice {P:Program} {W:World} {t e:TypeId} {v:Value} {α:Type} {E:Enc α} (h:ArgIn P W t v) (ht:P.underlying t=some (.slice e)) (hE:Reads P t (eSl E)): ∃a n c l,v= .slice a n c∧Sl E (fun _=>True) W a n c l:=by
 obtain ⟨base,H,enc,d,p,hok,⟨fuel,hf⟩,hw⟩:=h
 obtain ⟨a,n,c,rfl⟩:=okWide_slice ht hok
 obtain ⟨l,a',n',c',hc,hs⟩:=hE H enc W fuel _ _ hf hw
 simp only [Value.cells,List.cons.injEq,Value.slice.injEq,and_true] at hc
 obtain ⟨rfl,rfl,rfl⟩:=hc
 exact ⟨_,_,_,l,rfl,hs⟩
theorem ArgIn.struct {P:Program} {W:World} {t:TypeId} {fs:Array Field} {v:Value} {α:Type} {E:Enc α} (h:ArgIn P W t v) (ht:P.underlying t=some (.struct fs)) (hE:Reads P t E): ∃cs a,v= .agg cs∧E.rel (fun _=>True) W cs.toList a:=by
 obtain ⟨base,H,enc,d,p,hok,⟨fuel,hf⟩,hw⟩:=h
 obtain ⟨cs,rfl,_⟩:=okWide_struct ht hok
 obtain ⟨a,ha⟩:=hE H enc W fuel _ _ hf hw
 exact ⟨cs,a,rfl,ha⟩
theorem Xbd {H:Type} {enc:TypeId×Value→H} {P:Program} (hl:laidOutB P=true) {W W':World} (hb:Below W.heap.size W W'):
   ∀{ts:List TypeId} {vs:List Value} {ds:List (DataW H)} {ps:List MemPlace},(∀t∈ts,P.readableRec t=true∧t<P.types.size)→
     DataW.TrodAll enc P W 0 (fun _=>true) true ts vs ds ps→(∀x∈ps,x.block<W.heap.size)→DataW.TrodAll enc P W' 0 (fun b=>decide (b<W.heap.size)) true ts vs ds ps
 | [],[],[],_,_,h,_=>h
 | t::ts,v::vs,d::ds,_,hr,⟨p,q,h1,h2,e⟩,hlt=>by
   subst e
   exact ⟨p,q,Below.trod hl (hr t List.mem_cons_self).1 (hr t List.mem_cons_self).2 h1 hb fun x hx=>hlt x (List.mem_append.2 (Or.inl hx)),
     Xbd hl hb (fun t' ht'=>hr t' (List.mem_cons_of_mem _ ht')) h2 fun x hx=>hlt x (List.mem_append.2 (Or.inr hx)),rfl⟩
end Go.Kx
namespace Go.Kx
open Go.RowKit
variable {α:Type} {E:Enc α} {S S':Nat→Prop} {w w':World}
structure Elems (E:Enc α) (S:Nat→Prop) (w:World) (xs:List Value) (l:List α):Prop where
 length:xs.length=l.length * E.size
 elem: ∀i (h:i<l.length),E.rel S w ((xs.drop (i * E.size)).take E.size) l[i]
theorem Elems.mono {xs:List Value} {l:List α} (h:Elems E S w xs l) (hk: ∀b,S b→b<w.heap.size→S' b∧w'.heap[b]?=w.heap[b]?):Elems E S' w' xs l:=
 ⟨h.length,fun i hi=>E.mono (h.elem i hi) hk⟩
theorem Elems.nil:Elems E S w [] []:=⟨by simp,fun i h=>absurd h (Nat.not_lt_zero _)⟩
theorem Elems.single {cs:List Value} {a:α} (h:E.rel S w cs a):Elems E S w cs [a]:=by
 have hl:=E.len h
 refine ⟨by simp [hl],fun i hi=>?_⟩
 obtain rfl:i=0:=by simpa using hi
 simp only [Nat.zero_mul,List.drop_zero,List.getElem_cons_zero]
 rw [List.take_of_length_le Yan]
 exact h
theorem Elems.append {xs ys:List Value} {l m:List α} (h:Elems E S w xs l) (k:Elems E S w ys m):Elems E S w (xs++ys) (l++m):=by
 refine ⟨by rw [List.length_append,h.length,k.length,List.length_append,Nat.add_mul],fun i hi=>?_⟩
 rw [List.length_append] at hi
 by_cases hil:i<l.length
 · rw [List.getElem_append_left hil]
   have h1:=h.elem i hil
   have hle:i * E.size+E.size≤xs.length:=by
     rw [h.length,←Nat.succ_mul];exact Nat.mul_le_mul_right _ hil
   rw [List.drop_append_of_le_length Yan,List.take_append_of_le_length (by rw [List.length_drop];omega)]
   exact h1
 · rw [List.getElem_append_right Yan]
   have h1:=k.elem (i-l.length) Yan
   have e:i * E.size=xs.length+(i-l.length) * E.size:=by
     rw [h.length,←Nat.add_mul];congr 1;omega
   rw [e,List.drop_append,List.drop_of_length_le Yan,show xs.length+(i-l.length) * E.size-xs.length=(i-l.length) * E.size by omega,List.nil_append]
   exact h1
theorem Xdr (b off j:Nat):(⟨b,off,none⟩:Addr).add j=⟨b,off+j,none⟩:=by unfold Addr.add;split<;>simp_all
theorem Sl.cells {a:Option Addr} {n c:Nat} {l:List α} (h:Sl E S w a n c l) (hsz:0<E.size):
   ∃xs,Elems E S w xs l∧ ∀ad,a=some ad→ ∀j u,xs[j]?=some u→w.cell? (ad.add j)=some u:=by
 obtain ⟨f,hf⟩:=Go.Deep.choose_lt (α:=List Value) (n:=n) (p:=fun i cs=> ∃b off,a=some ⟨b,off,none⟩∧cs.length=E.size∧(∀j,j<E.size→w.cell? ⟨b,off+i * E.size+j,none⟩=cs[j]?)∧ ∀x,l[i]?=some x→E.rel S w cs x)
   (fun i hi=>by
     have hl:=h.length
     obtain ⟨b,off,cs,h1,_,_,h2,h3,h4⟩:=h.elem i Yan
     exact ⟨cs,b,off,h1,h2,h3,fun x hx=>by rw [List.getElem?_eq_getElem Yan] at hx;cases hx;exact h4⟩)
 have hl:=h.length
 have hdiv: ∀k,k<n * E.size→k / E.size<n:=fun k hk=>(Nat.div_lt_iff_lt_mul hsz).2 hk
 have hget: ∀k,k<n * E.size→((List.range (n * E.size)).map fun k=>(f (k / E.size)).getD (k % E.size) undef)[k]?=(f (k / E.size))[k % E.size]?:=fun k hk=>by
   obtain ⟨b,off,_,h2,_,_⟩:=hf (k / E.size) (hdiv k hk)
   have hm:k % E.size<(f (k / E.size)).length:=by rw [h2];exact Nat.mod_lt _ hsz
   rw [List.getElem?_map,List.getElem?_range hk]
   simp [List.getElem?_eq_getElem hm]
 refine ⟨(List.range (n * E.size)).map fun k=>(f (k / E.size)).getD (k % E.size) undef,⟨by simp [hl],fun i hi=>?_⟩,?_⟩
 · obtain ⟨b,off,_,h2,_,h4⟩:=hf i Yan
   have e:(((List.range (n * E.size)).map fun k=>(f (k / E.size)).getD (k % E.size) undef).drop (i * E.size)).take E.size=f i:=by
     apply List.ext_getElem?
     intro j
     rw [List.getElem?_take]
     split
     · rename_i hj
       rw [List.getElem?_drop]
       have hlt:i * E.size+j<n * E.size:=by
         have:(i+1) * E.size≤n * E.size:=Nat.mul_le_mul_right _ Yan
         rw [Nat.succ_mul] at this;omega
       rw [hget _ hlt]
       have d1:(i * E.size+j) / E.size=i:=by rw [Nat.mul_comm,Nat.mul_add_div hsz,Nat.div_eq_of_lt hj];omega
       have d2:(i * E.size+j) % E.size=j:=by rw [Nat.mul_comm,Nat.mul_add_mod,Nat.mod_eq_of_lt hj]
       rw [d1,d2]
     · rename_i hj
       rw [List.getElem?_eq_none Yan]
   rw [e]
   exact h4 _ (List.getElem?_eq_getElem hi)
 · intro ad had j u hu
   have hj:j<n * E.size:=by
     have:=(List.getElem?_eq_some_iff.1 hu).1
     simpa using this
   rw [hget j hj] at hu
   obtain ⟨b,off,h1,h2,h3,_⟩:=hf (j / E.size) (hdiv j hj)
   rw [had] at h1
   cases h1
   rw [Xdr]
   have:=h3 (j % E.size) (Nat.mod_lt _ hsz)
   rw [hu] at this
   rw [←this]
   have hdm:=Nat.div_add_mod j E.size
   rw [Nat.mul_comm] at hdm
   congr 2
   omega
theorem one_byte {cs:List Value} {a:UInt8} (h:eByte.rel S w cs a): ∀u∈cs,u.oneCell'=true:=by
 simp only [eByte] at h;subst h;simp [Value.oneCell']
theorem Elems.one {xs:List Value} {l:List α} (h:Elems E S w xs l) (hsz:0<E.size) (h1: ∀{cs:List Value} {a:α},E.rel S w cs a→ ∀u∈cs,u.oneCell'=true): ∀u∈xs,u.oneCell'=true:=by
 intro u hu
 obtain ⟨k,hk,rfl⟩:=List.mem_iff_getElem.1 hu
 have hkl:k / E.size<l.length:=(Nat.div_lt_iff_lt_mul hsz).2 (by rw [←h.length];exact hk)
 refine h1 (h.elem _ hkl) _ ?_
 rw [List.mem_iff_getElem?]
 refine ⟨k % E.size,?_⟩
 have hm:=Nat.mod_lt k hsz
 have hdm:=Nat.div_add_mod k E.size
 rw [Nat.mul_comm] at hdm
 rw [List.getElem?_take,if_pos hm,List.getElem?_drop,hdm,List.getElem?_eq_getElem hk]
theorem Sl.none_zero {a:Option Addr} {n c:Nat} {l:List α} (h:Sl E S w a n c l):a=none→n=0∧c=0:=fun ha=>by have:=h.nil ha;have:=h.cap;omega
end Go.Kx
namespace Go.Fr
open Go.RowKit Go.Kx
structure SP where
 rel:(Nat→Prop)→World→Value→Prop
 mono: ∀{S S':Nat→Prop} {w w':World} {v:Value},rel S w v→(∀b,S b→b<w.heap.size→S' b∧w'.heap[b]?=w.heap[b]?)→rel S' w' v
def ex (u:Value):SP:=⟨fun _ _ v=>v=u,fun h _=>h⟩
structure CellsR (F:Nat→Prop) (w:World) (ps:List SP) (cs:List Value):Prop where
 len:cs.length=ps.length
 at_: ∀(i:Nat) (p:SP),ps[i]?=some p→ ∃v,cs[i]?=some v∧p.rel F w v
theorem CellsR.mono {S S':Nat→Prop} {w w':World} {ps:List SP} {cs:List Value} (h:CellsR S w ps cs) (hk: ∀b,S b→b<w.heap.size→S' b∧w'.heap[b]?=w.heap[b]?):CellsR S' w' ps cs:=
 ⟨h.len,fun i p hp=>let ⟨v,h1,h2⟩:=h.at_ i p hp;⟨v,h1,p.mono h2 hk⟩⟩
def agg (ps:List SP):SP:=⟨fun F w v=> ∃cs:List Value,v= .agg cs.toArray∧CellsR F w ps cs,fun ⟨cs,h1,h2⟩ hk=>⟨cs,h1,h2.mono hk⟩⟩
def tup (ps:List SP):SP:=⟨fun F w v=> ∃cs:List Value,v= .tuple cs.toArray∧CellsR F w ps cs,fun ⟨cs,h1,h2⟩ hk=>⟨cs,h1,h2.mono hk⟩⟩
def isl {α:Type} (E:Enc α) (l:List α):SP:=⟨fun F w v=> ∃a n c,v= .slice a n c∧Sl E F w a n c l,fun ⟨a,n,c,h1,h2⟩ hk=>⟨a,n,c,h1,h2.mono hk⟩⟩
def Xsq {α:Type} (E:Enc α) (l:List α):SP:=⟨fun F w v=> ∃a,v= .slice a l.length l.length∧Sl E F w a l.length l.length l,fun ⟨a,h1,h2⟩ hk=>⟨a,h1,h2.mono hk⟩⟩
def fp (ps:List SP):SP where
 rel F w v:= ∃b off,v= .pointer (some ⟨b,off,none⟩)∧F b∧b<w.heap.size∧ ∀(i:Nat) (p:SP),ps[i]?=some p→ ∃u,w.cell? ⟨b,off+i,none⟩=some u∧p.rel F w u
 mono:=by
   rintro S S' w w' v ⟨b,off,rfl,h1,h2,h3⟩ hk
   obtain ⟨hb,hw⟩:=hk b h1 h2
   refine ⟨b,off,rfl,hb,?_,fun i p hp=>?_⟩
   · have:w.heap[b]?≠none:=by rw [Array.getElem?_eq_getElem h2];simp
     rw [←hw] at this
     exact Nat.lt_of_not_le fun h=>this (Array.getElem?_eq_none h)
   · obtain ⟨u,h4,h5⟩:=h3 i p hp
     exact ⟨u,(World.cell?_of_block (w:=w) hw).trans h4,p.mono h5 hk⟩
abbrev exI (k:IntKind) (n:Int):SP:=ex (.int k n)
abbrev exB (b:Bool):SP:=ex (.bool b)
structure Ent where
 foot:List Nat
 rel:(Nat→Prop)→World→Prop
 mono: ∀{S S':Nat→Prop} {w w':World},rel S w→(∀b,S b→b<w.heap.size→S' b∧w'.heap[b]?=w.heap[b]?)→(∀b∈foot,w'.heap[b]?=w.heap[b]?)→rel S' w'
def row (g:Nat) (T:TypeId) (tot:Nat) (ps:List SP):Ent where
 foot:=[g]
 rel F w:= ∃cur:Array Value,w.heap[g]?=some (.cells cur T (0,0))∧cur.size=tot∧ ∀(i:Nat) (p:SP),ps[i]?=some p→ ∃v,cur[i]?=some v∧p.rel F w v
 mono:=by
   rintro S S' w w' ⟨cur,h1,h2,h3⟩ hk hf
   refine ⟨cur,(hf g Ybn).trans h1,h2,fun i p hp=>?_⟩
   obtain ⟨v,h4,h5⟩:=h3 i p hp
   exact ⟨v,h4,p.mono h5 hk⟩
structure Good (F:Nat→Prop) (st:List Ent) (w:World):Prop where
 rel: ∀e∈st,e.rel F w
 lt: ∀e∈st,∀b∈e.foot,b<w.heap.size∧ ¬F b
 disj:st.Pairwise fun e e'=> ∀b∈e.foot,b∉e'.foot
structure Ch (X:Nat→Prop) (w w':World):Prop where
 os:w'.os=w.os
 tape:w'.tape=w.tape
 output:w'.output=w.output
 size:w.heap.size≤w'.heap.size
 block: ∀k,k<w.heap.size→ ¬X k→w'.heap[k]?=w.heap[k]?
theorem Ch.refl (X:Nat→Prop) (w:World):Ch X w w:=⟨rfl,rfl,rfl,Nat.le_refl _,fun _ _ _=>rfl⟩
theorem Ch.trans {X Y Z:Nat→Prop} {a b c:World} (h:Ch X a b) (k:Ch Y b c) (hx: ∀n,n<a.heap.size→X n→Z n) (hy: ∀n,n<a.heap.size→Y n→Z n):Ch Z a c:=
 ⟨k.os.trans h.os,k.tape.trans h.tape,k.output.trans h.output,Nat.le_trans h.size k.size,fun i hi hz=>(k.block i (Nat.lt_of_lt_of_le hi h.size) fun hn=>hz (hy i hi hn)).trans (h.block i hi fun hn=>hz (hx i hi hn))⟩
structure Cx where
 P:Program
 w0:World
 F0:Nat→Prop
 X:Nat→Prop
 out:List Ent
 N:Nat
 dfs:List Deferred
abbrev Env:=List (Nat×SP)
def look (t:Nat):Env→Option SP
 | []=>none
 | (k,p)::r=>match Nat.beq t k with|true=>some p|false=>look t r
def ev (env:Env):Operand→Option SP
 | .tmp t=>look t env
 | .const v=>some (ex v)
 | .global g=>some (ex (.pointer (some ⟨g,0,none⟩)))
 | .func f=>some (ex (.func (.func f) #[] #[]))
structure Rel (C:Cx) (F:Nat→Prop) (env:Env) (loc:List Ent) (a:Act) (w:World):Prop where
 good:Good F (loc++C.out) w
 env: ∀t p,look t env=some p→p.rel F w (a.tmps.getD t undef)
 size:a.tmps.size=C.N
 defers:a.defers=C.dfs
 ch:Ch C.X C.w0 w
 own: ∀e∈loc,∀b∈e.foot,C.w0.heap.size≤b∨C.X b
 grow: ∀b,C.F0 b→b<C.w0.heap.size→F b
abbrev Post:=Exit→Env→List Ent→Prop
def Xnm (C:Cx) (Q:Post):Exit→Act→World→Prop:=fun e a w=> ∃F env loc,Rel C F env loc a w∧Q e env loc
structure WP (C:Cx) (c:Code) (Q:Post) (env:Env) (loc:List Ent):Prop where
 out: ∀F a w,Rel C F env loc a w→c.wp C.P (Xnm C Q) a w
structure WPL (C:Cx) (ops:Array Oper) (Q:Post) (l:List Oper) (env:Env) (loc:List Ent):Prop where
 out: ∀F a w,Rel C F env loc a w→wpList C.P ops (Xnm C Q) l a w
structure WO (C:Cx) (H:Nat→Prop) (o:Oper) (K:Env→List Ent→Prop) (env:Env) (loc:List Ent):Prop where
 out: ∀F a w,Rel C F env loc a w→o.wp C.P a w (fun a' w'=> ∃F' env' loc',Rel C F' env' loc' a' w'∧w.heap.size≤w'.heap.size∧(∀b,F b→b<w.heap.size→F' b)∧(∀b,b<w.heap.size→F b∨H b→w'.heap[b]?=w.heap[b]?)∧K env' loc') (fun _ _ _=>False)
theorem Qr {P:Program} {o:Oper} {a:Act} {w:World} {K K':Act→World→Prop} {Q Q':Exit→Act→World→Prop} (h: ∀a w,K a w→K' a w) (hq: ∀e a w,Q e a w→Q' e a w) (hh:o.wp P a w K Q):o.wp P a w K' Q':=by
 unfold Oper.wp at *
 generalize (execOp a.eval o).run P w=r at *
 cases r with
 | ok n w'=>
   cases n<;>simp only [Oper.upon] at hh ⊢<;>
     first
       | exact h _ _ hh
       | exact Calls.mono hh (fun e w'' he=>by cases e<;>first|exact h _ _ he|exact hq _ _ _ he|exact (let ⟨a,w,q⟩:=he;⟨a,w,hq _ _ _ q⟩))
       | exact Rows.mono hh (fun _ _ he=>h _ _ he)
 | halt x w'=>cases x<;>simp only [Oper.upon] at hh ⊢<;>first|exact hq _ _ _ hh|exact hh
theorem Xd {C:Cx} {ops:Array Oper} {Q:Post} {env:Env} {loc:List Ent} (h:Q .normal env loc):WPL C ops Q [] env loc:=
 ⟨fun F _ _ hR=>wpList_nil ⟨F,env,loc,hR,h⟩⟩
theorem Xpl {C:Cx} {H:Nat→Prop} {ops:Array Oper} {Q:Post} {o:Oper} {rest:List Oper} {env:Env} {loc:List Ent} (hg:o.guard=none) (h:WO C H o (fun env loc=>WPL C ops Q rest env loc) env loc):WPL C ops Q (o::rest) env loc:=by
 constructor
 intro F a w hR
 refine wpList_plain hg fun K hK=>?_
 exact Qr (fun a' w' ⟨F',env',loc',hR',_,_,_,h'⟩=>hK _ _ (h'.out F' a' w' hR')) (fun _ _ _ h=>h.elim) (h.out F a w hR)
theorem Q4 {C:Cx} {F:Nat→Prop} {env:Env} {loc:List Ent} {a:Act} {w:World} (hR:Rel C F env loc a w) {ops:Array Oper} {j d:Nat} {b:Bool} (hj:(ops[j]?).bind (·.dst)=some d) (hd:d<C.N) (he:look d env=some (exB b)):yielded ops a.tmps j=some b:=by
 have h1:a.tmps.getD d undef= .bool b:=hR.env _ _ he
 have h2:a.tmps[d]?=some (.bool b):=by
   rw [Array.getElem?_eq_getElem (by rw [hR.size];exact hd)]
   rw [Array.getD_eq_getD_getElem?,Array.getElem?_eq_getElem (by rw [hR.size];exact hd)] at h1
   simpa using h1
 simp [yielded,hj,h2]
theorem Xfi {C:Cx} {F:Nat→Prop} {env:Env} {loc:List Ent} {a:Act} {w:World} (hR:Rel C F env loc a w) {ops:Array Oper} {j d:Nat} (hj:(ops[j]?).bind (·.dst)=some d) (hd:d<C.N) (he:look d env=some (ex undef)):yielded ops a.tmps j=none:=by
 have h1:a.tmps.getD d undef=undef:=hR.env _ _ he
 have h2:a.tmps[d]?=some undef:=by
   rw [Array.getElem?_eq_getElem (by rw [hR.size];exact hd)]
   rw [Array.getD_eq_getD_getElem?,Array.getElem?_eq_getElem (by rw [hR.size];exact hd)] at h1
   simpa using h1
 simp [yielded,hj,h2,undef]
theorem Xpm {C:Cx} {H:Nat→Prop} {ops:Array Oper} {Q:Post} {o:Oper} {rest:List Oper} {env:Env} {loc:List Ent} {j d:Nat} {want:Bool} (hg:o.guard=some (j,want)) (hj:(ops[j]?).bind (·.dst)=some d) (hd:Nat.blt d C.N=true) (he:look d env=some (exB want))
   (h:WO C H o (fun env loc=>WPL C ops Q rest env loc) env loc):WPL C ops Q (o::rest) env loc:=by
 constructor
 intro F a w hR
 have hy:=Q4 hR hj (by simpa [Nat.blt_eq] using hd) he
 refine wpList_step fun K hK=>?_
 rw [if_pos (by simp [Region.wanted,hg,hy])]
 exact Qr (fun a' w' ⟨F',env',loc',hR',_,_,_,h'⟩=>hK _ _ (h'.out F' a' w' hR')) (fun _ _ _ h=>h.elim) (h.out F a w hR)
theorem U4 {a b:Nat} (h:Nat.blt a b=true):a<b:=by simpa [Nat.blt_eq] using h
theorem Um {t k:Nat} {p:SP} {env:Env}:look t ((k,p)::env)=if t=k then some p else look t env:=by
 by_cases h:t=k
 · subst h;simp [look]
 · have:Nat.beq t k=false:=by
     cases hb:Nat.beq t k with
     | false=>rfl
     | true=>exact absurd (Nat.eq_of_beq_eq_true hb) h
   simp [look,this,h]
theorem Xfj {a:Act} {d:Nat} {v:Value} (h:d<a.tmps.size):(a.put (some d) v).tmps.getD d undef=v:=by
 simp [Act.put,h]
theorem Xij {a:Act} {d t:Nat} {v:Value} (h:t≠d):(a.put (some d) v).tmps.getD t undef=a.tmps.getD t undef:=by
 simp [Act.put,Array.getElem?_setIfInBounds_ne (Ne.symm h)]
theorem Rel.next {C:Cx} {F F':Nat→Prop} {env:Env} {loc loc':List Ent} {a:Act} {w w':World} {d:Nat} {p:SP} {v:Value} (h:Rel C F env loc a w)
   (hg:Good F' (loc'++C.out) w') (hm: ∀b,F b→b<w.heap.size→F' b∧w'.heap[b]?=w.heap[b]?) (hch:Ch C.X C.w0 w') (hown: ∀e∈loc',∀b∈e.foot,C.w0.heap.size≤b∨C.X b)
   (hd:Nat.blt d C.N=true) (hp:p.rel F' w' v):Rel C F' ((d,p)::env) loc' (a.put (some d) v) w' where
 good:=hg
 env t q hq:=by
   rw [Um] at hq
   split at hq
   · rename_i e;cases hq;subst e
     rw [Xfj (by rw [h.size];exact U4 hd)];exact hp
   · rename_i hne
     rw [Xij hne]
     exact q.mono (h.env t q hq) hm
 size:=by simp [Act.put,h.size]
 defers:=h.defers
 ch:=hch
 own:=hown
 grow b hb hlt:=(hm b (h.grow b hb hlt) (Nat.lt_of_lt_of_le hlt h.ch.size)).1
theorem Rel.put {C:Cx} {F:Nat→Prop} {env:Env} {loc:List Ent} {a:Act} {w:World} {d:Nat} {p:SP} {v:Value} (h:Rel C F env loc a w) (hd:Nat.blt d C.N=true) (hp:p.rel F w v):Rel C F ((d,p)::env) loc (a.put (some d) v) w:=
 h.next h.good (fun _ hb _=>⟨hb,rfl⟩) h.ch h.own hd hp
theorem Ve {C:Cx} {ops:Array Oper} {Q:Post} {d':Nat} {op:Op} {ty:TypeId} {pos:String} {af:Array Edge} {rest:List Oper} {env:Env} {loc:List Ent} {j d:Nat} {b want:Bool} (hj:(ops[j]?).bind (·.dst)=some d) (hd:Nat.blt d C.N=true) (he:look d env=some (exB b)) (hb:(b==want)=false)
   (hd':Nat.blt d' C.N=true) (h:WPL C ops Q rest ((d',ex undef)::env) loc):WPL C ops Q (⟨some d',op,ty,pos,af,some (j,want)⟩::rest) env loc:=by
 constructor
 intro F a w hR
 have hy:=Q4 hR hj (U4 hd) he
 refine wpList_step fun K hK=>?_
 rw [if_neg (by simp only [Region.wanted,hy];simpa using hb)]
 exact hK _ _ (h.out F _ w (hR.put hd' rfl))
theorem Xo2 {C:Cx} {ops:Array Oper} {Q:Post} {d':Nat} {op:Op} {ty:TypeId} {pos:String} {af:Array Edge} {rest:List Oper} {env:Env} {loc:List Ent} {j d:Nat} {want:Bool} (hj:(ops[j]?).bind (·.dst)=some d) (hd:Nat.blt d C.N=true) (he:look d env=some (ex undef))
   (hd':Nat.blt d' C.N=true) (h:WPL C ops Q rest ((d',ex undef)::env) loc):WPL C ops Q (⟨some d',op,ty,pos,af,some (j,want)⟩::rest) env loc:=by
 constructor
 intro F a w hR
 have hy:=Xfi hR hj (U4 hd) he
 refine wpList_step fun K hK=>?_
 rw [if_neg (by simp only [Region.wanted,hy];simp)]
 exact hK _ _ (h.out F _ w (hR.put hd' rfl))
theorem Xb {C:Cx} {id:Nat} {l:List Oper} {Q:Post} {env:Env} {loc:List Ent} (h:WPL C l.toArray Q l env loc):WP C (.region id l.toArray false) Q env loc:=
 ⟨fun F a w hR=>wp_region_lit (h.out F a w hR)⟩
def Xnn (K:Env→List Ent→Prop) (Q:Post):Post
 | .normal=>K
 | e=>Q e
theorem Xf {C:Cx} {x y:Code} {Q:Post} {env:Env} {loc:List Ent} (h:WP C x (Xnn (fun env loc=>WP C y Q env loc) Q) env loc):WP C (.seq x y) Q env loc:=by
 constructor
 intro F a w hR
 refine wp_seq (Code.wp_mono ?_ (h.out F a w hR))
 rintro e a' w' ⟨F',env',loc',hR',hq⟩
 cases e with
 | normal=>exact hq.out F' a' w' hR'
 | _=>exact ⟨F',env',loc',hR',hq⟩
theorem Xo {C:Cx} {c:Operand} {x y:Code} {Q:Post} {env:Env} {loc:List Ent} {b:Bool} (hc:ev env c=some (exB b)) (ht:b=true→WP C x Q env loc) (hf:b=false→WP C y Q env loc):WP C (.cond c x y) Q env loc:=by
 constructor
 intro F a w hR
 have hv:a.eval c= .bool b:=by
   cases c with
   | tmp t=>exact hR.env t _ hc
   | const v=>simp only [ev,Option.some.injEq] at hc;have:(ex v).rel F w v:=rfl;rw [hc] at this;exact this
   | global g=>simp only [ev,Option.some.injEq] at hc;have:(ex (.pointer (some ⟨g,0,none⟩))).rel F w (.pointer (some ⟨g,0,none⟩)):=rfl;rw [hc] at this;exact this
   | func f=>simp only [ev,Option.some.injEq] at hc;have:(ex (.func (.func f) #[] #[])).rel F w (.func (.func f) #[] #[]):=rfl;rw [hc] at this;exact this
 exact wp_cond_split hv (fun h=>(ht h).out F a w hR) (fun h=>(hf h).out F a w hR)
theorem X8 {C:Cx} {F:Nat→Prop} {env:Env} {loc:List Ent} {a:Act} {w:World} (hR:Rel C F env loc a w) {c:Operand} {p:SP} (hc:ev env c=some p):p.rel F w (a.eval c):=by
 cases c with
 | tmp t=>exact hR.env t _ hc
 | const v=>simp only [ev,Option.some.injEq] at hc;subst hc;rfl
 | global g=>simp only [ev,Option.some.injEq] at hc;subst hc;rfl
 | func f=>simp only [ev,Option.some.injEq] at hc;subst hc;rfl
theorem Xs {C:Cx} {Q:Post} {env:Env} {loc:List Ent} (h:Q .normal env loc):WP C .skip Q env loc:=⟨fun F _ _ hR=>wp_skip ⟨F,env,loc,hR,h⟩⟩
theorem Xz {C:Cx} {Q:Post} {env:Env} {loc:List Ent} (h:Q .ret env loc):WP C .ret Q env loc:=⟨fun F _ _ hR=>wp_ret ⟨F,env,loc,hR,h⟩⟩
theorem Wy {C:Cx} {Q:Post} {id:Nat} {env:Env} {loc:List Ent} (h:Q (.exit id) env loc):WP C (.exit id) Q env loc:=⟨fun F _ _ hR=>wp_exit ⟨F,env,loc,hR,h⟩⟩
def Xcq (id:Nat) (Q:Post):Post
 | .exit k=>fun env loc=>match Nat.beq k id with|true=>Q .normal env loc|false=>Q (.exit k) env loc
 | e=>Q e
theorem Xp {C:Cx} {id:Nat} {c:Code} {Q:Post} {env:Env} {loc:List Ent} (h:WP C c (Xcq id Q) env loc):WP C (.block id c) Q env loc:=by
 constructor
 intro F a w hR
 refine wp_block (Code.wp_mono ?_ (h.out F a w hR))
 rintro e a' w' ⟨F',env',loc',hR',hq⟩
 cases e with
 | exit k=>
   simp only [Xcq] at hq
   simp only [Exit.inBlock]
   split at hq
   · rename_i hb
     rw [if_pos (Nat.eq_of_beq_eq_true hb)];exact ⟨F',env',loc',hR',hq⟩
   · rename_i hb
     rw [if_neg (fun h=>by subst h;rw [Nat.beq_refl] at hb;cases hb)];exact ⟨F',env',loc',hR',hq⟩
 | _=>exact ⟨F',env',loc',hR',hq⟩
def Leads (C:Cx) (env:Env) (loc:List Ent) (env':Env) (loc':List Ent):Prop:= ∀F a w,Rel C F env loc a w→ ∃F',Rel C F' env' loc' a w
def LeadsS (C:Cx) (env:Env) (loc:List Ent) (env':Env) (loc':List Ent):Prop:= ∀F a w,Rel C F env loc a w→Rel C F env' loc' a w
theorem LeadsS.leads {C:Cx} {env env':Env} {loc loc':List Ent} (h:LeadsS C env loc env' loc'):Leads C env loc env' loc':=fun F a w hR=>⟨F,h F a w hR⟩
theorem Xno {C:Cx} {H:Nat→Prop} {o:Oper} {K:Env→List Ent→Prop} {env env':Env} {loc loc':List Ent} (hl:LeadsS C env loc env' loc') (h:WO C H o K env' loc'):WO C H o K env loc:=⟨fun F a w hR=>h.out F a w (hl F a w hR)⟩
theorem Leads.refl {C:Cx} {env:Env} {loc:List Ent}:Leads C env loc env loc:=fun F _ _ hR=>⟨F,hR⟩
theorem Leads.trans {C:Cx} {e1 e2 e3:Env} {l1 l2 l3:List Ent} (h:Leads C e1 l1 e2 l2) (k:Leads C e2 l2 e3 l3):Leads C e1 l1 e3 l3:=fun F a w hR=>let ⟨F',hR'⟩:=h F a w hR;k F' a w hR'
theorem W1 {C:Cx} {c:Code} {Q:Post} {env:Env} {loc:List Ent} {α:Type} (I:α→Env×List Ent) (ok:α→Prop) (μ:α→Nat) (x0:α) (h0:Leads C env loc (I x0).1 (I x0).2) (hk:ok x0)
   (round: ∀x,ok x→WP C c (Xnn (fun env' loc'=> ∃y,ok y∧μ y<μ x∧Leads C env' loc' (I y).1 (I y).2) Q) (I x).1 (I x).2):WP C (.loop c) Q env loc:=by
 have key: ∀n x,μ x=n→ok x→ ∀F a w,Rel C F (I x).1 (I x).2 a w→ ∀(b:Frame) (k:List Item) (cs:List Frame),
     ∃e a' w',Xnm C Q e a' w'∧Arrives C.P (lone (b.at a (.code c:: .inLoop c::k)) cs w) b k cs e a' w':=by
   intro n
   induction n using Nat.strongRecOn with
   | _ n ih=>
     intro x hn hx F a w hR b k cs
     obtain ⟨e,a₁,w₁,⟨F',env',loc',hR',hq⟩,harr⟩:=(round x hx).out F a w hR b (.inLoop c::k) cs
     cases e with
     | normal=>
       obtain ⟨y,hy,hlt,hl⟩:=hq
       obtain ⟨F2,hR2⟩:=hl _ _ _ hR'
       obtain ⟨e₂,a₂,w₂,hq₂,harr₂⟩:=ih (μ y) (hn ▸ hlt) y rfl hy F2 a₁ w₁ hR2 b k cs
       exact ⟨e₂,a₂,w₂,hq₂,.of_steps (Steps.trans harr (.one step_inLoop)) harr₂⟩
     | exit id=>exact ⟨_,a₁,w₁,⟨F',env',loc',hR',hq⟩,.pass (x:= .inLoop c) rfl (fun _ _=> .inl Ybn) harr⟩
     | goto l=>exact ⟨_,a₁,w₁,⟨F',env',loc',hR',hq⟩,.pass (x:= .inLoop c) rfl (fun _ _=> .inl Ybn) harr⟩
     | ret=>exact ⟨_,a₁,w₁,⟨F',env',loc',hR',hq⟩,.pass (x:= .inLoop c) rfl (fun _ _=> .inl Ybn) harr⟩
     | panic ch=>exact ⟨_,a₁,w₁,⟨F',env',loc',hR',hq⟩,.pass (x:= .inLoop c) rfl (fun _ _=> .inl Ybn) harr⟩
     | outgrown=>exact ⟨_,a₁,w₁,⟨F',env',loc',hR',hq⟩,.pass (x:= .inLoop c) rfl (fun _ _=> .inl Ybn) harr⟩
 refine ⟨fun F a w hR b k cs=>?_⟩
 obtain ⟨F',hR'⟩:=h0 F a w hR
 obtain ⟨e,a',w',hq,harr⟩:=key _ x0 rfl hk F' a w hR' b k cs
 exact ⟨e,a',w',hq,.of_steps (.one step_loop) harr⟩
def FnC (P:Program) (f:FuncId) (args:List SP) (inn:List Ent) (R:SP→List Ent→Prop):Prop:=
 ∀(F:Nat→Prop) (w:World) (vals:List Value) (out:List Ent),Good F (inn++out) w→CellsR F w args vals→
   Calls P f vals.toArray w fun e w'=> ∃v F' p loc',e= .returned v∧R p loc'∧p.rel F' w' v∧Good F' (loc'++out) w'∧Ch (fun b=> ∃e∈inn,b∈e.foot) w w'∧(∀b,F b→b<w.heap.size→F' b)∧
     ∀e∈loc',∀b∈e.foot,w.heap.size≤b∨ ∃e∈inn,b∈e.foot
def Xb9 (i:Nat):List SP→Env
 | []=>[]
 | p::r=>(i,p)::Xb9 (i+1) r
def T8 (inn:List Ent):Nat→Prop:=fun b=> ∃e∈inn,b∈e.foot
def Xjk (C:Cx) (fn:Func) (R:SP→List Ent→Prop):Post:=fun e env loc=>(e= .normal∨e= .ret)∧
 ∀F a w,Rel C F env loc a w→ ∃F' v p loc',(results fn a.tmps).run C.P w= .ok v w∧R p loc'∧p.rel F' w v∧Good F' (loc'++C.out) w∧(∀b,C.F0 b→b<C.w0.heap.size→F' b)∧ ∀e∈loc',∀b∈e.foot,C.w0.heap.size≤b∨C.X b
theorem U5 {C:Cx} {fn:Func} {R:SP→List Ent→Prop} {e:Exit} {env env':Env} {loc loc':List Ent} (hl:Leads C env loc env' loc') (h:Xjk C fn R e env' loc'):Xjk C fn R e env loc:=⟨h.1,fun F a w hR=>let ⟨F',hR'⟩:=hl F a w hR;h.2 F' a w hR'⟩
theorem Rb {t:Nat} {p:SP}: ∀{ps:List SP} {i:Nat},look t (Xb9 i ps)=some p→ ∃j,t=i+j∧ps[j]?=some p
 | [],i,h=>by cases h
 | q::ps,i,h=>by
   rw [Xb9,Um] at h
   split at h
   · rename_i e;cases h;exact ⟨0,by omega,rfl⟩
   · obtain ⟨j,h1,h2⟩:=Rb (ps:=ps) (i:=i+1) h
     exact ⟨j+1,by omega,by simpa using h2⟩
theorem X4 {P:Program} {f:FuncId} {fn:Func} {c:Code} {args:List SP} {inn:List Ent} {R:SP→List Ent→Prop} {N:Nat} (hf:P.funcs[f]?=some fn) (hb:fn.body=some c) (hN:fn.ntmps=N) (hle:Nat.ble args.length N=true)
   (h: ∀w0 F0 out,WP ⟨P,w0,F0,T8 inn,out,N,[]⟩ c (Xjk ⟨P,w0,F0,T8 inn,out,N,[]⟩ fn R) (Xb9 0 args) inn):FnC P f args inn R:=by
 intro F w vals out hG hA
 have hle':args.length≤N:=Nat.le_of_ble_eq_true hle
 have hsz:vals.length=args.length:=hA.len
 refine calls_of_wp hf hb (Code.wp_mono ?_ ((h w F out).out F _ w ⟨hG,?_,?_,rfl,Ch.refl _ _,fun e he b hb=> .inr ⟨e,he,hb⟩,fun b hb _=>hb⟩))
 · rintro e a' w' ⟨F',env',loc',hR',hq,hq2⟩
   obtain ⟨F2,v,p,loc2,h1,h2,h3,h4,h5,h6⟩:=hq2 F' a' w' hR'
   have hpost: ∃v1 F' p loc',Ending.returned v= .returned v1∧R p loc'∧p.rel F' w' v1∧Good F' (loc'++out) w'∧Ch (fun b=> ∃e∈inn,b∈e.foot) w w'∧(∀b,F b→b<w.heap.size→F' b)∧ ∀e∈loc',∀b∈e.foot,w.heap.size≤b∨ ∃e∈inn,b∈e.foot:=
     ⟨v,F2,p,loc2,rfl,h2,h3,h4,hR'.ch,h5,h6⟩
   rcases hq with rfl|rfl
   · exact bodyPost_end h1 hR'.defers hpost
   · exact bodyPost_ret h1 hR'.defers hpost
 · intro t p hp
   obtain ⟨j,rfl,hj⟩:=Rb hp
   obtain ⟨v,hv,hr⟩:=hA.at_ j p hj
   have hlt:j<vals.length:=(List.getElem?_eq_some_iff.1 hv).1
   have hx:(vals.toArray++Array.replicate (fn.ntmps-vals.toArray.size) undef).getD (0+j) undef=v:=by
     rw [Nat.zero_add,Array.getD_eq_getD_getElem?,Array.getElem?_append_left (by simpa using hlt)]
     simp [hv]
   rw [hx];exact hr
 · rw [hN];simp;omega
end Go.Fr
namespace Go.Fr
open Go.RowKit Go.Kx
theorem Vz {P:Program} {t:TypeId} {d:TypeDesc} (h:P.underlying t=some d) (w:World):(underlying t).run P w= .ok d w:=by simp [underlying,go_sem,h]
theorem Xfk {P:Program} {t:TypeId} {i:TypeInfo} (h:P.info? t=some i) (w:World):(typeInfo t).run P w= .ok i w:=by simp [typeInfo,go_sem,h]
theorem Qb {P:Program} {t:TypeId} {i:TypeInfo} (h:P.info? t=some i) (w:World):(sizeOf t).run P w= .ok i.size w:=by simp [sizeOf,go_sem,Xfk h]
class TI (P:Program) (t:TypeId) (sz bt:outParam Nat) (z:outParam Value):Prop where
 out: ∃ti,P.info? t=some ti∧ti.size=sz∧ti.bytes=bt∧ti.zero=some z
def U6 (l:List Ent):Nat→Prop:=fun b=> ∃e∈l,b∈e.foot
theorem W7 {l:List Ent} {k b T tot:Nat} {ps:List SP} (h:l[k]?=some (row b T tot ps)):U6 l b:=⟨_,List.mem_of_getElem? h,by simp [row]⟩
def Xca (H:Nat→Prop) (F:Nat→Prop) (w w':World):Prop:= ∀b,b<w.heap.size→(F b∨H b)→w'.heap[b]?=w.heap[b]?
def Xsl (_:Nat→Prop) (_ _:World):Prop:=True
structure WT (C:Cx) (S:(Nat→Prop)→World→World→Prop) (o:Oper) (p:SP) (env:Env) (loc:List Ent):Prop where
 out: ∀F a w,Rel C F env loc a w→ ∃v,p.rel F w v∧ ∀w',S F w w'→(execOp a.eval o).run C.P w'= .ok (.value v) w'
theorem V6 {C:Cx} {H:Nat→Prop} {d:Nat} {op:Op} {ty:TypeId} {pos:String} {af:Array Edge} {g:Option (Nat×Bool)} {K:Env→List Ent→Prop} {env:Env} {loc:List Ent} {p:SP}
   (h:WT C (Xca fun _=>True) ⟨some d,op,ty,pos,af,g⟩ p env loc) (hd:Nat.blt d C.N=true) (hk:K ((d,p)::env) loc):WO C H ⟨some d,op,ty,pos,af,g⟩ K env loc:=by
 constructor
 intro F a w hR
 obtain ⟨v,hp,hr⟩:=h.out F a w hR
 unfold Oper.wp
 rw [hr w fun _ _ _=>rfl]
 exact ⟨F,_,_,hR.put hd hp,Nat.le_refl _,fun _ hb _=>hb,fun _ _ _=>rfl,hk⟩
theorem Xk {C:Cx} {ops:Array Oper} {Q:Post} {d:Nat} {op:Op} {ty:TypeId} {pos:String} {af:Array Edge} {rest:List Oper} {env:Env} {loc:List Ent} {p:SP}
   (h:WT C (Xca fun _=>True) ⟨some d,op,ty,pos,af,none⟩ p env loc) (hd:Nat.blt d C.N=true) (hk:WPL C ops Q rest ((d,p)::env) loc):WPL C ops Q (⟨some d,op,ty,pos,af,none⟩::rest) env loc:=
 Xpl (H:=fun _=>False) rfl (V6 h hd hk)
theorem Vh {C:Cx} {ops:Array Oper} {Q:Post} {d:Nat} {op:Op} {ty:TypeId} {pos:String} {af:Array Edge} {rest:List Oper} {env:Env} {loc:List Ent} {p:SP} {j dj:Nat} {want:Bool} (hj:(ops[j]?).bind (·.dst)=some dj) (hdj:Nat.blt dj C.N=true) (he:look dj env=some (exB want))
   (h:WT C (Xca fun _=>True) ⟨some d,op,ty,pos,af,some (j,want)⟩ p env loc) (hd:Nat.blt d C.N=true) (hk:WPL C ops Q rest ((d,p)::env) loc):WPL C ops Q (⟨some d,op,ty,pos,af,some (j,want)⟩::rest) env loc:=
 Xpm (H:=fun _=>False) rfl hj hdj he (V6 h hd hk)
theorem X0 {p:Prop} [Decidable p] (h:decide p=true):p:=of_decide_eq_true h
theorem X1 {p:Prop} [Decidable p] (h:decide p=false): ¬p:=of_decide_eq_false h
theorem Vf {b:Bool} (h:(!b)=true):b=false:=by cases b<;>simp_all
theorem Vg {b:Bool} (h:(!b)=false):b=true:=by cases b<;>simp_all
theorem W0 {C:Cx} {ops:Array Oper} {Q:Post} {d':Option Tmp} {op:Op} {ty:TypeId} {pos:String} {af:Array Edge} {rest:List Oper} {env:Env} {loc:List Ent} {j d:Nat} {b want:Bool} (hj:(ops[j]?).bind (·.dst)=some d) (he:look d env=some (exB b))
   (h1:b=true→WPL C ops Q (⟨d',op,ty,pos,af,some (j,want)⟩::rest) ((d,exB true)::env) loc) (h0:b=false→WPL C ops Q (⟨d',op,ty,pos,af,some (j,want)⟩::rest) ((d,exB false)::env) loc):WPL C ops Q (⟨d',op,ty,pos,af,some (j,want)⟩::rest) env loc:=by
 have key: ∀b',b=b'→ ∀F a w,Rel C F env loc a w→Rel C F ((d,exB b')::env) loc a w:=fun b' hb F a w hR=>⟨hR.good,fun t p hp=>by
   rw [Um] at hp
   split at hp
   · rename_i e;cases hp;subst e hb;exact hR.env _ _ he
   · exact hR.env t p hp,hR.size,hR.defers,hR.ch,hR.own,hR.grow⟩
 constructor
 intro F a w hR
 cases hb:b with
 | true=>exact (h1 hb).out F a w (key _ hb F a w hR)
 | false=>exact (h0 hb).out F a w (key _ hb F a w hR)
theorem Xx {C:Cx} {c:Operand} {x y:Code} {Q:Post} {env:Env} {loc:List Ent} (hc:ev env c=some (exB true)) (h:WP C x Q env loc):WP C (.cond c x y) Q env loc:=Xo hc (fun _=>h) (fun e=>by cases e)
theorem X2 {C:Cx} {c:Operand} {x y:Code} {Q:Post} {env:Env} {loc:List Ent} (hc:ev env c=some (exB false)) (h:WP C y Q env loc):WP C (.cond c x y) Q env loc:=Xo hc (fun e=>by cases e) (fun _=>h)
theorem Xi {C:Cx} {ops:Array Oper} {Q:Post} {o:Oper} {rest:List Oper} {env:Env} {loc:List Ent} (hg:o.guard=none) (h:WO C (U6 []) o (fun env loc=>WPL C ops Q rest env loc) env loc):WPL C ops Q (o::rest) env loc:=Xpl hg h
theorem Vt {C:Cx} {ops:Array Oper} {Q:Post} {o:Oper} {rest:List Oper} {env:Env} {loc:List Ent} {j d:Nat} {want:Bool} (hg:o.guard=some (j,want)) (hj:(ops[j]?).bind (·.dst)=some d) (hd:Nat.blt d C.N=true) (he:look d env=some (exB want))
   (h:WO C (U6 []) o (fun env loc=>WPL C ops Q rest env loc) env loc):WPL C ops Q (o::rest) env loc:=Xpm hg hj hd he h
section
variable {C:Cx} {S:(Nat→Prop)→World→World→Prop} {H:Nat→Prop} {env:Env} {loc:List Ent} {dst:Option Tmp} {ty:TypeId} {pos:String} {af:Array Edge} {g:Option (Nat×Bool)}
theorem Vu {t:TypeId} {x:Operand} {p:SP} (h:WT C S ⟨dst,.load t x,ty,pos,af,g⟩ p env loc):WT C S ⟨dst,.load t x,ty,pos,af,g⟩ p env loc:=h
theorem V1 {o:BinOp} {t u:TypeId} {x y:Operand} {p:SP} (h:WT C S ⟨dst,.binOp o t x y u,ty,pos,af,g⟩ p env loc):WT C S ⟨dst,.binOp o t x y u,ty,pos,af,g⟩ p env loc:=h
theorem Xsr {o:UnOp} {t:TypeId} {x:Operand} {p:SP} (h:WT C S ⟨dst,.unOp o t x,ty,pos,af,g⟩ p env loc):WT C S ⟨dst,.unOp o t x,ty,pos,af,g⟩ p env loc:=h
theorem Rm {t:TypeId} {x:Operand} {y z q:Option Operand} {p:SP} (h:WT C S ⟨dst,.slice t x y z q,ty,pos,af,g⟩ p env loc):WT C S ⟨dst,.slice t x y z q,ty,pos,af,g⟩ p env loc:=h
theorem Xby {t:TypeId} {x y:Operand} {p:SP} (h:WT C S ⟨dst,.indexAddr t x y,ty,pos,af,g⟩ p env loc):WT C S ⟨dst,.indexAddr t x y,ty,pos,af,g⟩ p env loc:=h
theorem Xef {c:Call} {p:SP} (h:WT C S ⟨dst,.call c,ty,pos,af,g⟩ p env loc):WT C S ⟨dst,.call c,ty,pos,af,g⟩ p env loc:=h
theorem Xik {t:TypeId} {ps:Array (Nat×Operand)} {p:SP} (h:WT C S ⟨dst,.build t ps,ty,pos,af,g⟩ p env loc):WT C S ⟨dst,.build t ps,ty,pos,af,g⟩ p env loc:=h
theorem Xqr {t:TypeId} {x:Operand} {i:Nat} {p:SP} (h:WT C S ⟨dst,.fieldAddr t x i,ty,pos,af,g⟩ p env loc):WT C S ⟨dst,.fieldAddr t x i,ty,pos,af,g⟩ p env loc:=h
theorem Xe {x:Operand} {p:SP} (h:ev env x=some p):WT C S ⟨dst,.move x,ty,pos,af,g⟩ p env loc:=
 ⟨fun _ a _ hR=>⟨a.eval x,X8 hR h,fun _ _=>rfl⟩⟩
theorem Xj {x:Operand} {p:SP} (h:ev env x=some p):WT C S ⟨dst,.assign x,ty,pos,af,g⟩ p env loc:=
 ⟨fun _ a _ hR=>⟨a.eval x,X8 hR h,fun _ _=>rfl⟩⟩
theorem Wk {c x y:Operand} {b:Bool} {p:SP} (hc:ev env c=some (exB b)) (h1:b=true→ev env x=some p) (h2:b=false→ev env y=some p):WT C S ⟨dst,.pick c x y,ty,pos,af,g⟩ p env loc:=by
 constructor
 intro F a w hR
 have hv:a.eval c= .bool b:=X8 hR hc
 cases b with
 | true=>exact ⟨a.eval x,X8 hR (h1 rfl),fun _ _=>by (generalize a.eval=ρ at hv ⊢;simp [execOp,hv,go_sem])⟩
 | false=>exact ⟨a.eval y,X8 hR (h2 rfl),fun _ _=>by (generalize a.eval=ρ at hv ⊢;simp [execOp,hv,go_sem])⟩
theorem Xro {t:TypeId} {x:Operand} {b:Bool} (h:ev env x=some (exB b)):WT C S ⟨dst,.unOp .not t x,ty,pos,af,g⟩ (exB (!b)) env loc:=by
 constructor
 intro F a w hR
 have hv:a.eval x= .bool b:=X8 hR h
 exact ⟨_,rfl,fun _ _=>by (generalize a.eval=ρ at hv ⊢;simp [execOp,hv,go_sem])⟩
section bin
variable {x y:Operand} {t u:TypeId} {k:IntKind} {m n:Int}
theorem Tl (op:BinOp) (a:Act) (hx:a.eval x= .int k m) (hy:a.eval y= .int k n) (w:World) (P:Program):(execOp a.eval ⟨dst,.binOp op t x y u,ty,pos,af,g⟩).run P w=(do pure (.value (←binOp op t (.int k m) (.int k n))):Sem Next).run P w:=by
 simp only [execOp,hx,hy,eqGuard]
 cases op<;>rfl
theorem Qe (hx:ev env x=some (exI k m)) (hy:ev env y=some (exI k n)):WT C S ⟨dst,.binOp .lss t x y u,ty,pos,af,g⟩ (exB (decide (m<n))) env loc:=
 ⟨fun _ a _ hR=>⟨_,rfl,fun w' _=>by rw [Tl _ _ (X8 hR hx) (X8 hR hy)];simp [binOp,Op.intCmp,go_sem]⟩⟩
theorem Xjl (hx:ev env x=some (exI k m)) (hy:ev env y=some (exI k n)):WT C S ⟨dst,.binOp .leq t x y u,ty,pos,af,g⟩ (exB (decide (m≤n))) env loc:=
 ⟨fun _ a _ hR=>⟨_,rfl,fun w' _=>by rw [Tl _ _ (X8 hR hx) (X8 hR hy)];simp [binOp,Op.intCmp,go_sem]⟩⟩
theorem Xdg (hx:ev env x=some (exI k m)) (hy:ev env y=some (exI k n)):WT C S ⟨dst,.binOp .gtr t x y u,ty,pos,af,g⟩ (exB (decide (n<m))) env loc:=
 ⟨fun _ a _ hR=>⟨_,rfl,fun w' _=>by rw [Tl _ _ (X8 hR hx) (X8 hR hy)];simp [binOp,Op.intCmp,go_sem]⟩⟩
theorem Xdh (hx:ev env x=some (exI k m)) (hy:ev env y=some (exI k n)):WT C S ⟨dst,.binOp .geq t x y u,ty,pos,af,g⟩ (exB (decide (n≤m))) env loc:=
 ⟨fun _ a _ hR=>⟨_,rfl,fun w' _=>by rw [Tl _ _ (X8 hR hx) (X8 hR hy)];simp [binOp,Op.intCmp,go_sem]⟩⟩
theorem Qf (hx:ev env x=some (exI k m)) (hy:ev env y=some (exI k n)):WT C S ⟨dst,.binOp .eql t x y u,ty,pos,af,g⟩ (exB (decide (m=n))) env loc:=
 ⟨fun _ a _ hR=>⟨_,rfl,fun w' _=>by rw [Tl _ _ (X8 hR hx) (X8 hR hy)];simp [binOp,Op.intCmp,go_sem];rw [Bool.eq_iff_iff];simp⟩⟩
theorem Xbe (hx:ev env x=some (exI k m)) (hy:ev env y=some (exI k n)):WT C S ⟨dst,.binOp .neq t x y u,ty,pos,af,g⟩ (exB (!decide (m=n))) env loc:=
 ⟨fun _ a _ hR=>⟨_,rfl,fun w' _=>by rw [Tl _ _ (X8 hR hx) (X8 hR hy)];simp [binOp,Op.intCmp,go_sem];rw [Bool.eq_iff_iff];simp⟩⟩
theorem Sv (hx:ev env x=some (exI k m)) (hy:ev env y=some (exI k n)) (hr:k.wrap (m+n)=m+n:=by first|exact IntWalk.i64_in _ Yan|(simp [IntKind.wrap,IntKind.bits,IntKind.signed];done)|(simp [IntKind.wrap,IntKind.bits,IntKind.signed];omega)):WT C S ⟨dst,.binOp .add t x y u,ty,pos,af,g⟩ (exI k (m+n)) env loc:=
 ⟨fun _ a _ hR=>⟨_,rfl,fun w' _=>by rw [Tl _ _ (X8 hR hx) (X8 hR hy)];simp only [binOp,Op.intArith,ne_eq,not_true_eq_false,if_false,hr];rfl⟩⟩
theorem Xnp (hx:ev env x=some (exI k m)) (hy:ev env y=some (exI k n)) (hr:k.wrap (m-n)=m-n:=by first|exact IntWalk.i64_in _ Yan|(simp [IntKind.wrap,IntKind.bits,IntKind.signed];done)|(simp [IntKind.wrap,IntKind.bits,IntKind.signed];omega)):WT C S ⟨dst,.binOp .sub t x y u,ty,pos,af,g⟩ (exI k (m-n)) env loc:=
 ⟨fun _ a _ hR=>⟨_,rfl,fun w' _=>by rw [Tl _ _ (X8 hR hx) (X8 hR hy)];simp only [binOp,Op.intArith,ne_eq,not_true_eq_false,if_false,hr];rfl⟩⟩
end bin
theorem Wi {x:Operand} {i:Nat} {ps:List SP} {p:SP} (h:ev env x=some (tup ps)) (hi:ps[i]?=some p):WT C S ⟨dst,.extract x i,ty,pos,af,g⟩ p env loc:=by
 constructor
 intro F a w hR
 obtain ⟨cs,hv,hc⟩:=X8 hR h
 obtain ⟨v,h1,h2⟩:=hc.at_ i p hi
 exact ⟨v,h2,fun _ _=>by (generalize a.eval=ρ at hv ⊢;simp [execOp,hv,Instr.extract,h1,go_sem])⟩
theorem Xpn {α:Type} {E:Enc α} {l:List α} {x:Operand} {t e:TypeId} (h:ev env x=some (isl E l)) (ht:C.P.underlying t=some (.slice e)):WT C S ⟨dst,.call ⟨.builtin .len,#[x],#[t]⟩,ty,pos,af,g⟩ (exI .i64 l.length) env loc:=by
 constructor
 intro F a w hR
 obtain ⟨b,n,c,hv,hs⟩:=X8 hR h
 refine ⟨_,rfl,fun _ _=>?_⟩
 have hl:=hs.length
 generalize a.eval=ρ at hv ⊢
 simp [go_sem,hv,Vz ht,Builtin.len_,goInt,hl]
theorem Xqs {v0:Option Addr} {n c:Nat} {x:Operand} {t e:TypeId} (h:ev env x=some (ex (.slice v0 n c))) (ht:C.P.underlying t=some (.slice e)):WT C S ⟨dst,.call ⟨.builtin .len,#[x],#[t]⟩,ty,pos,af,g⟩ (exI .i64 n) env loc:=by
 constructor
 intro F a w hR
 have hv:a.eval x= .slice v0 n c:=X8 hR h
 refine ⟨_,rfl,fun _ _=>?_⟩
 generalize a.eval=ρ at hv ⊢
 simp [go_sem,hv,Vz ht,Builtin.len_,goInt]
theorem Xqt {s:ByteArray} {x:Operand} {t:TypeId} (h:ev env x=some (ex (.string s))) (ht:C.P.underlying t=some .string):WT C S ⟨dst,.call ⟨.builtin .len,#[x],#[t]⟩,ty,pos,af,g⟩ (exI .i64 s.size) env loc:=by
 constructor
 intro F a w hR
 have hv:a.eval x= .string s:=X8 hR h
 refine ⟨_,rfl,fun _ _=>?_⟩
 generalize a.eval=ρ at hv ⊢
 simp [go_sem,hv,Vz ht,Builtin.len_,goInt]
theorem Sw (b off n:Nat):(⟨b,off,none⟩:Addr).add n=⟨b,off+n,none⟩:=by unfold Addr.add;split<;>simp_all
theorem Xjm {t:TypeId} {x:Operand} {i b off:Nat} {fs:Array Field} {fn:String} {ft fo:Nat} {fe:Bool} {ftg fpp:String} {fbo:Nat} {sz bt:Nat} {z:Value} (h:ev env x=some (ex (.pointer (some ⟨b,off,none⟩)))) (ht:C.P.underlying t=some (.struct fs)) (hf:fs[i]?=some ⟨fn,ft,fo,fe,ftg,fpp,fbo⟩) [hT:TI C.P ft sz bt z] (h0:(sz==0)=false:=by rfl):
   WT C S ⟨dst,.fieldAddr t x i,ty,pos,af,g⟩ (ex (.pointer (some ⟨b,off+fo,none⟩))) env loc:=by
 constructor
 intro F a w hR
 obtain ⟨ti,hi,rfl,_,_⟩:=hT.out
 have hv:a.eval x= .pointer (some ⟨b,off,none⟩):=X8 hR h
 refine ⟨_,rfl,fun _ _=>?_⟩
 have h0': ¬ti.size=0:=by simpa using h0
 generalize a.eval=ρ at hv ⊢
 simp [execOp,hv,Instr.fieldAt,Vz ht,hf,Instr.sureAddr,fieldPlace,Qb hi,h0',Sw,go_sem]
theorem Xgw {t:TypeId} {x:Operand} {i:Nat} {ps:List SP} {fs:Array Field} {fn:String} {ft fo:Nat} {fe:Bool} {ftg fpp:String} {fbo:Nat} {sz bt:Nat} {z:Value} (h:ev env x=some (fp ps)) (ht:C.P.underlying t=some (.struct fs)) (hf:fs[i]?=some ⟨fn,ft,fo,fe,ftg,fpp,fbo⟩) [hT:TI C.P ft sz bt z] (h0:(sz==0)=false:=by rfl):
   WT C S ⟨dst,.fieldAddr t x i,ty,pos,af,g⟩ (fp (ps.drop fo)) env loc:=by
 constructor
 intro F a w hR
 obtain ⟨b,off,hv,h1,h2,h3⟩:=X8 hR h
 refine ⟨.pointer (some ⟨b,off+fo,none⟩),⟨b,off+fo,rfl,h1,h2,fun j p hp=>?_⟩,fun _ _=>?_⟩
 · rw [List.getElem?_drop] at hp
   obtain ⟨u,h4,h5⟩:=h3 _ p hp
   exact ⟨u,by rw [←h4,Nat.add_assoc],h5⟩
 · obtain ⟨ti,hi,rfl,_,_⟩:=hT.out
   have h0': ¬ti.size=0:=by simpa using h0
   generalize a.eval=ρ at hv ⊢
   simp [execOp,hv,Instr.fieldAt,Vz ht,hf,Instr.sureAddr,fieldPlace,Qb hi,h0',Sw,go_sem]
class Fits {α:Type} (E:Enc α) (fs:outParam (α→List SP)):Prop where
 out: ∀{F:Nat→Prop} {w:World} {cs:List Value} {a:α},E.rel F w cs a→CellsR F w (fs a) cs
 inn: ∀{F:Nat→Prop} {w:World} {cs:List Value} {a:α},CellsR F w (fs a) cs→E.rel F w cs a
class Nt (m:Int) (i:outParam Nat):Prop where
 h:m=(i:Int)
instance Nt.lit (k:Nat):Nt (no_index (@OfNat.ofNat Int k _)) (@OfNat.ofNat Nat k _):=⟨rfl⟩
instance Nt.cast (i:Nat):Nt (i:Int) i:=⟨rfl⟩
instance Nt.ofNat (i:Nat):Nt (Int.ofNat i) i:=⟨rfl⟩
instance Nt.add {a b:Int} {i j:Nat} [ha:Nt a i] [hb:Nt b j]:Nt (a+b) (i+j):=⟨by rw [ha.h,hb.h];rfl⟩
instance Nt.mul {a b:Int} {i j:Nat} [ha:Nt a i] [hb:Nt b j]:Nt (a * b) (i * j):=⟨by rw [ha.h,hb.h];simp⟩
theorem Xfl {α:Type} {E:Enc α} {fs:α→List SP} {l:List α} {t e:TypeId} {x y:Operand} {k:IntKind} {m:Int} {i bt:Nat} {z:Value} (hx:ev env x=some (isl E l)) (hy:ev env y=some (exI k m)) [hE:Fits E fs] [hm:Nt m i] (ht:C.P.underlying t=some (.slice e)) [hT:TI C.P e E.size bt z] (hl:i<l.length:=by first|omega|(simp;done)|(simp;omega)):
   WT C S ⟨dst,.indexAddr t x y,ty,pos,af,g⟩ (fp (fs l[i])) env loc:=by
 constructor
 intro F a w hR
 obtain ⟨ti,hi,hsz,_,_⟩:=hT.out
 obtain ⟨rfl⟩:=hm
 obtain ⟨b0,n,c,hv,hs⟩:=X8 hR hx
 have hvy:a.eval y= .int k i:=X8 hR hy
 obtain ⟨b,off,cs,rfl,h1,h2,h3,h4,h5⟩:=hs.elem i hl
 have h6:=hE.out h5
 have hn:i<n:=by rw [←hs.length];exact hl
 refine ⟨.pointer (some ⟨b,off+i * E.size,none⟩),⟨b,_,rfl,h1,h2,fun j p hp=>?_⟩,fun _ _=>?_⟩
 · obtain ⟨u,h7,h8⟩:=h6.at_ j p hp
   have hj:j<E.size:=by rw [←h3];exact (List.getElem?_eq_some_iff.1 h7).1
   exact ⟨u,(h4 j hj).trans h7,h8⟩
 · generalize a.eval=ρ at hv hvy ⊢
   simp [execOp,hv,hvy,Instr.indexAt,asIntOf,Vz ht,hn,Sw,Qb hi,hsz,go_sem]
theorem Xgx {b off n c:Nat} {t e:TypeId} {x y:Operand} {k:IntKind} {m:Int} {i sz bt:Nat} {z:Value} (hx:ev env x=some (ex (.slice (some ⟨b,off,none⟩) n c))) (hy:ev env y=some (exI k m)) [hm:Nt m i] (ht:C.P.underlying t=some (.slice e)) [hT:TI C.P e sz bt z] (hl:i<n:=by first|omega|(simp;done)|(simp;omega)):
   WT C S ⟨dst,.indexAddr t x y,ty,pos,af,g⟩ (ex (.pointer (some ⟨b,off+i * sz,none⟩))) env loc:=by
 constructor
 intro F a w hR
 obtain ⟨ti,hi,rfl,_,_⟩:=hT.out
 obtain ⟨rfl⟩:=hm
 have hv:a.eval x= .slice (some ⟨b,off,none⟩) n c:=X8 hR hx
 have hvy:a.eval y= .int k i:=X8 hR hy
 refine ⟨_,rfl,fun _ _=>?_⟩
 generalize a.eval=ρ at hv hvy ⊢
 simp [execOp,hv,hvy,Instr.indexAt,asIntOf,Vz ht,hl,Sw,Qb hi,go_sem]
theorem Xgy {α:Type} {E:Enc α} {fs:α→List SP} {l:List α} {t e:TypeId} {x y:Operand} {k:IntKind} {m:Int} {bt:Nat} {z:Value} (hx:ev env x=some (isl E l)) (hy:ev env y=some (exI k m)) [hE:Fits E fs] (ht:C.P.underlying t=some (.slice e)) [hT:TI C.P e E.size bt z] (hm:0≤m:=by first|omega|(simp;done)|(simp;omega)) (hl:m.toNat<l.length:=by first|omega|(simp;done)|(simp;omega)):
   WT C S ⟨dst,.indexAddr t x y,ty,pos,af,g⟩ (fp (fs l[m.toNat])) env loc:=Xfl (hm:=⟨by omega⟩) hx hy ht hl
def Desc.aggB:TypeDesc→Bool
 | .struct _=>true
 | .array _ _=>true
 | _=>false
theorem Qs {P:Program} {a:Act} {t:TypeId} {x:Operand} {ad:Addr} {u:Value} {d:TypeDesc} {w:World} (hx:a.eval x= .pointer (some ad)) (hu:P.underlying t=some d) (hd:Desc.aggB d=false) (hc:w.cell? ad=some u):
   (execOp a.eval ⟨dst,.load t x,ty,pos,af,g⟩).run P w= .ok (.value u) w:=by
 have:(isAgg t).run P w= .ok false w:=by
   cases d<;>first|(simp [Desc.aggB] at hd;done)|simp [isAgg,Vz hu,go_sem]
 generalize a.eval=ρ at hx ⊢
 simp [execOp,hx,Instr.loadAt,Instr.sureAddr,loadVar,this,go_sem,hc]
theorem Rel.row_at {C:Cx} {F:Nat→Prop} {env:Env} {loc:List Ent} {a:Act} {w:World} (hR:Rel C F env loc a w) {k b T tot:Nat} {ps:List SP} (he:loc[k]?=some (row b T tot ps)):
   ∃cur:Array Value,w.heap[b]?=some (.cells cur T (0,0))∧cur.size=tot∧ ∀(i:Nat) (p:SP),ps[i]?=some p→ ∃v,cur[i]?=some v∧p.rel F w v:=
 hR.good.rel _ (List.mem_append_left _ (List.mem_of_getElem? he))
theorem Vr {t:TypeId} {x:Operand} {k b off T tot:Nat} {ps:List SP} {p:SP} {d:TypeDesc} (hx:ev env x=some (ex (.pointer (some ⟨b,off,none⟩)))) (he:loc[k]?=some (row b T tot ps)) (hp:ps[off]?=some p) (hu:C.P.underlying t=some d) (hH:H b:=by first|trivial|exact W7 (k:=0) rfl|exact W7 (k:=1) rfl|exact W7 (k:=2) rfl|exact W7 (k:=3) rfl|exact W7 (k:=4) rfl|exact W7 (k:=5) rfl|exact W7 (k:=6) rfl|exact W7 (k:=7) rfl|exact W7 (k:=8) rfl) (hd:Desc.aggB d=false:=by rfl):
   WT C (Xca H) ⟨dst,.load t x,ty,pos,af,g⟩ p env loc:=by
 constructor
 intro F a w hR
 obtain ⟨cur,h1,h2,h3⟩:=hR.row_at he
 obtain ⟨v,h4,h5⟩:=h3 off p hp
 have hb:b<w.heap.size:=(Array.getElem?_eq_some_iff.1 h1).1
 refine ⟨v,h5,fun w' hs=>Qs (X8 hR hx) hu hd ?_⟩
 have:=hs b hb (.inr hH)
 simp [World.cell?,this,h1,h4]
theorem Xfm {t:TypeId} {x:Operand} {p:SP} {ps:List SP} {d:TypeDesc} (hx:ev env x=some (fp (p::ps))) (hu:C.P.underlying t=some d) (hd:Desc.aggB d=false:=by rfl):WT C (Xca H) ⟨dst,.load t x,ty,pos,af,g⟩ p env loc:=by
 constructor
 intro F a w hR
 obtain ⟨b,off,hv,h1,h2,h3⟩:=X8 hR hx
 obtain ⟨u,h4,h5⟩:=h3 0 p rfl
 exact ⟨u,h5,fun w' hs=>Qs hv hu hd ((World.cell?_of_block (w:=w) (hs b h2 (.inl h1))).trans h4)⟩
theorem Ru {P:Program} {w:World} {b off:Nat}: ∀(vs:List Value) (i:Nat) (acc:Array Value),(∀(j:Nat) (v:Value),vs[j]?=some v→w.cell? ⟨b,off+(i+j),none⟩=some v)→(loadCellsFrom ⟨b,off,none⟩ i vs.length acc).run P w= .ok (acc++vs.toArray) w
 | [],i,acc,_=>by simp [loadCellsFrom,go_sem]
 | v::vs,i,acc,h=>by
   have h0:=h 0 v rfl
   have ih:=Ru (P:=P) vs (i+1) (acc.push v) (fun j u hu=>by have:=h (j+1) u (by simpa using hu);rw [show i+1+j=i+(j+1) by omega];exact this)
   simp only [Nat.add_zero] at h0
   simp [loadCellsFrom,List.length_cons,Sw,h0,go_sem,ih]
theorem Xcb {P:Program} {a:Act} {t:TypeId} {x:Operand} {b off:Nat} {vs:List Value} {d:TypeDesc} {ti:TypeInfo} {w:World} (hx:a.eval x= .pointer (some ⟨b,off,none⟩)) (hu:P.underlying t=some d) (hd:Desc.aggB d=true) (hi:P.info? t=some ti) (hn:ti.size=vs.length) (hc: ∀(j:Nat) (v:Value),vs[j]?=some v→w.cell? ⟨b,off+j,none⟩=some v):
   (execOp a.eval ⟨dst,.load t x,ty,pos,af,g⟩).run P w= .ok (.value (.agg vs.toArray)) w:=by
 have h1:(isAgg t).run P w= .ok true w:=by
   cases d<;>first|(simp [Desc.aggB] at hd;done)|simp [isAgg,Vz hu,go_sem]
 have h2:=Ru (P:=P) (w:=w) (b:=b) (off:=off) vs 0 #[] (fun j v hv=>by rw [Nat.zero_add];exact hc j v hv)
 generalize a.eval=ρ at hx ⊢
 simp [execOp,hx,Instr.loadAt,Instr.sureAddr,loadVar,h1,Qb hi,hn,loadCells,h2,go_sem]
theorem Xfn {t:TypeId} {x:Operand} {k b off T tot:Nat} {ps:List SP} {d:TypeDesc} {sz bt:Nat} {z:Value} (hx:ev env x=some (ex (.pointer (some ⟨b,off,none⟩)))) (he:loc[k]?=some (row b T tot ps)) (hu:C.P.underlying t=some d) [hT:TI C.P t sz bt z] (hH:H b:=by first|trivial|exact W7 (k:=0) rfl|exact W7 (k:=1) rfl|exact W7 (k:=2) rfl|exact W7 (k:=3) rfl|exact W7 (k:=4) rfl|exact W7 (k:=5) rfl|exact W7 (k:=6) rfl|exact W7 (k:=7) rfl|exact W7 (k:=8) rfl) (hd:Desc.aggB d=true:=by rfl) (hl:Nat.ble (off+sz) ps.length=true:=by rfl):
   WT C (Xca H) ⟨dst,.load t x,ty,pos,af,g⟩ (agg ((ps.drop off).take sz)) env loc:=by
 constructor
 intro F a w hR
 obtain ⟨ti,hi,rfl,_,_⟩:=hT.out
 obtain ⟨cur,h1,h2,h3⟩:=hR.row_at he
 have hl':=Nat.le_of_ble_eq_true hl
 have hb:b<w.heap.size:=(Array.getElem?_eq_some_iff.1 h1).1
 have hlen:((ps.drop off).take ti.size).length=ti.size:=by rw [List.length_take,List.length_drop];omega
 have hcur:off+ti.size≤cur.size:=by
   rcases Nat.eq_zero_or_pos ti.size with h0|h0
   · rcases Nat.eq_zero_or_pos off with h00|h00
     · omega
     · obtain ⟨v,h4,_⟩:=h3 (off-1) ps[off-1] (List.getElem?_eq_getElem Yan)
       have:=(Array.getElem?_eq_some_iff.1 h4).1
       omega
   · obtain ⟨v,h4,_⟩:=h3 (off+ti.size-1) ps[off+ti.size-1] (List.getElem?_eq_getElem Yan)
     have:=(Array.getElem?_eq_some_iff.1 h4).1
     omega
 have hvl:((cur.toList.drop off).take ti.size).length=ti.size:=by rw [List.length_take,List.length_drop,Array.length_toList];omega
 have hvj: ∀j v,((cur.toList.drop off).take ti.size)[j]?=some v→cur[off+j]?=some v:=fun j v hv=>by
   rw [List.getElem?_take] at hv
   split at hv
   · rw [List.getElem?_drop,Array.getElem?_toList] at hv;exact hv
   · cases hv
 refine ⟨.agg ((cur.toList.drop off).take ti.size).toArray,⟨_,rfl,⟨by rw [hvl,hlen],fun j p hp=>?_⟩⟩,fun w' hs=>Xcb (X8 hR hx) hu hd hi hvl.symm fun j v hv=>?_⟩
 · rw [List.getElem?_take] at hp
   split at hp
   · rename_i hj
     rw [List.getElem?_drop] at hp
     obtain ⟨v,h4,h5⟩:=h3 _ p hp
     exact ⟨v,by rw [List.getElem?_take,if_pos hj,List.getElem?_drop,Array.getElem?_toList];exact h4,h5⟩
   · cases hp
 · have:=hs b hb (.inr hH)
   simp [World.cell?,this,h1,hvj j v hv]
theorem Tm {t:TypeId} {x:Operand} {ps:List SP} {d:TypeDesc} {sz bt:Nat} {z:Value} (hx:ev env x=some (fp ps)) (hu:C.P.underlying t=some d) [hT:TI C.P t sz bt z] (hd:Desc.aggB d=true:=by rfl) (hl:Nat.ble sz ps.length=true:=by rfl):WT C (Xca H) ⟨dst,.load t x,ty,pos,af,g⟩ (agg (ps.take sz)) env loc:=by
 constructor
 intro F a w hR
 obtain ⟨ti,hi,rfl,_,_⟩:=hT.out
 obtain ⟨b,off,hv,h1,h2,h3⟩:=X8 hR hx
 have hl':=Nat.le_of_ble_eq_true hl
 obtain ⟨f,hf⟩:=Go.Deep.choose_lt (α:=Value) (n:=ti.size) (p:=fun j v=>w.cell? ⟨b,off+j,none⟩=some v∧ ∀p,ps[j]?=some p→p.rel F w v) (fun j hj=>by
   obtain ⟨u,h4,h5⟩:=h3 j ps[j] (List.getElem?_eq_getElem Yan)
   exact ⟨u,h4,fun p hp=>by rw [List.getElem?_eq_getElem Yan] at hp;cases hp;exact h5⟩)
 refine ⟨.agg ((List.range ti.size).map f).toArray,⟨_,rfl,⟨by simp [List.length_take];omega,fun j p hp=>?_⟩⟩,fun w' hs=>Xcb hv hu hd hi Ybn fun j v hvj=>?_⟩
 · rw [List.getElem?_take] at hp
   split at hp
   · rename_i hj
     exact ⟨f j,by simp [hj],(hf j hj).2 p hp⟩
   · cases hp
 · rw [List.getElem?_map] at hvj
   by_cases hj:j<ti.size
   · rw [List.getElem?_range hj] at hvj
     cases hvj
     exact (World.cell?_of_block (w:=w) (hs b h2 (.inl h1))).trans (hf j hj).1
   · rw [List.getElem?_eq_none (by simpa using hj)] at hvj;cases hvj
end
end Go.Fr
namespace Go.Fr
open Go.RowKit Go.Kx
class Sc (p:SP):Prop where
 out: ∀F w v,p.rel F w v→v.oneCell'=true
theorem Xam {u:Value} (h:u.oneCell'=true):Sc (ex u):=⟨fun _ _ _ h'=>by rw [show _=u from h'];exact h⟩
instance {k:IntKind} {n:Int}:Sc (ex (.int k n)):=Xam rfl
instance {b:Bool}:Sc (ex (.bool b)):=Xam rfl
instance {s:ByteArray}:Sc (ex (.string s)):=Xam rfl
instance {a:Option Addr}:Sc (ex (.pointer a)):=Xam rfl
instance {a:Option Addr} {n c:Nat}:Sc (ex (.slice a n c)):=Xam rfl
instance {a:Option Nat}:Sc (ex (.map a)):=Xam rfl
instance {f:Go.Fn} {a b:Array Value}:Sc (ex (.func f a b)):=Xam rfl
instance:Sc (ex .nilFunc):=Xam rfl
instance:Sc (ex .nilIface):=Xam rfl
instance {t:TypeId} {v:Value}:Sc (ex (.iface t v)):=Xam rfl
instance Xsm {α:Type} {E:Enc α} {l:List α}:Sc (isl E l):=⟨by rintro _ _ _ ⟨a,n,c,rfl,_⟩;rfl⟩
instance Xsg {α:Type} {E:Enc α} {l:List α}:Sc (Xsq E l):=⟨by rintro _ _ _ ⟨a,rfl,_⟩;rfl⟩
instance Xss {ps:List SP}:Sc (fp ps):=⟨by rintro _ _ _ ⟨a,n,rfl,_⟩;rfl⟩
class Scs (ps:List SP):Prop where
 out: ∀p∈ps,Sc p
instance Scs_nil:Scs []:=⟨fun _ h=>by cases h⟩
instance Xfo {p:SP} {ps:List SP} [h:Sc p] [k:Scs ps]:Scs (p::ps):=⟨fun q hq=>by rcases List.mem_cons.1 hq with rfl|hq;exact h;exact k.out q hq⟩
theorem CellsR.one {F:Nat→Prop} {w:World} {ps:List SP} {cs:List Value} (h:CellsR F w ps cs) (hs:Scs ps): ∀v∈cs,v.oneCell'=true:=by
 intro v hv
 obtain ⟨i,hi,rfl⟩:=List.mem_iff_getElem.1 hv
 have hi':i<ps.length:=by rw [←h.len];exact hi
 obtain ⟨u,h1,h2⟩:=h.at_ i ps[i] (List.getElem?_eq_getElem hi')
 rw [List.getElem?_eq_getElem hi] at h1
 cases h1
 exact (hs.out _ (List.getElem_mem hi')).out _ _ _ h2
class AsC (p:SP) (ps:outParam (List SP)):Prop where
 cells: ∀F w v,p.rel F w v→CellsR F w ps v.cells.toList
instance Xnq {ps:List SP}:AsC (agg ps) ps:=⟨by rintro F w v ⟨cs,rfl,h⟩;simpa [Value.cells] using h⟩
instance (priority:=low) AsC_one {p:SP} [h:Sc p]:AsC p [p]:=⟨fun F w v hv=>by
 have h1:=h.out F w v hv
 have h2:v.cells.toList=[v]:=by cases v<;>first|rfl|(simp [Value.oneCell'] at h1;done)
 rw [h2]
 refine ⟨rfl,fun i q hq=>?_⟩
 have:i=0:=by
   have:=(List.getElem?_eq_some_iff.1 hq).1
   simpa using this
 subst this
 cases hq
 exact ⟨v,rfl,hv⟩⟩
theorem Rel.alloc {C:Cx} {F:Nat→Prop} {env:Env} {loc:List Ent} {a:Act} {w w':World} {T:TypeId} {cur:Array Value} {ps:List SP} {d:Nat} {p:SP} {v:Value} (hR:Rel C F env loc a w) (hw:w'.heap=(w.alloc (.cells cur T)).heap) (hos:w'.os=w.os) (htp:w'.tape=w.tape) (hout:w'.output=w.output)
   (hps: ∀(i:Nat) (q:SP),ps[i]?=some q→ ∃u,cur[i]?=some u∧q.rel F w u) (hd:Nat.blt d C.N=true) (hp: ∀F',p.rel F' w' v):
   Rel C (fun k=>F k∧k<w.heap.size) ((d,p)::env) (row w.heap.size T cur.size ps::loc) (a.put (some d) v) w':=by
 have hb: ∀k,k<w.heap.size→w'.heap[k]?=w.heap[k]?:=fun k hk=>by rw [hw];exact Below.heap_alloc w _ k hk
 have hsz:w'.heap.size=w.heap.size+1:=by rw [hw];simp
 have hm: ∀b,F b→b<w.heap.size→(F b∧b<w.heap.size)∧w'.heap[b]?=w.heap[b]?:=fun b h1 h2=>⟨⟨h1,h2⟩,hb b h2⟩
 refine hR.next ⟨?_,?_,?_⟩ hm ?_ ?_ hd (hp _)
 · intro e he
   rcases List.mem_cons.1 he with rfl|he
   · refine ⟨cur,?_,rfl,fun i q hq=>?_⟩
     · rw [hw];show (w.heap.push _)[w.heap.size]?=_;simp
     · obtain ⟨u,h1,h2⟩:=hps i q hq
       exact ⟨u,h1,q.mono h2 hm⟩
   · exact e.mono (hR.good.rel e he) hm fun b hb'=>hb b (hR.good.lt e he b hb').1
 · intro e he b hb'
   rcases List.mem_cons.1 he with rfl|he
   · have:b=w.heap.size:=by simpa [row] using hb'
     subst this
     exact ⟨by omega,fun h=>Nat.lt_irrefl _ h.2⟩
   · have:=hR.good.lt e he b hb'
     exact ⟨by omega,fun h=>this.2 h.1⟩
 · refine List.pairwise_cons.2 ⟨fun e he b hb' hb2=>?_,hR.good.disj⟩
   have:b=w.heap.size:=by simpa [row] using hb'
   subst this
   exact Nat.lt_irrefl _ (hR.good.lt e he _ hb2).1
 · refine ⟨hos.trans hR.ch.os,htp.trans hR.ch.tape,hout.trans hR.ch.output,by have:=hR.ch.size;omega,fun k hk hx=>(hb k (Nat.lt_of_lt_of_le hk hR.ch.size)).trans (hR.ch.block k hk hx)⟩
 · intro e he b hb'
   rcases List.mem_cons.1 he with rfl|he
   · have:b=w.heap.size:=by simpa [row] using hb'
     subst this
     exact .inl hR.ch.size
   · exact hR.own e he b hb'
theorem Rel.write {C:Cx} {F:Nat→Prop} {env:Env} {loc:List Ent} {a:Act} {w w':World} {k b T tot:Nat} {ps ps':List SP} {cur':Array Value} (hR:Rel C F env loc a w) (he:loc[k]?=some (row b T tot ps))
   (hb:w'.heap[b]?=some (.cells cur' T (0,0))) (hsz:cur'.size=tot) (hps: ∀(i:Nat) (p:SP),ps'[i]?=some p→ ∃v,cur'[i]?=some v∧p.rel F w v) (ho: ∀j,j≠b→w'.heap[j]?=w.heap[j]?) (hos:w'.os=w.os) (htp:w'.tape=w.tape) (hout:w'.output=w.output) (hs:w'.heap.size=w.heap.size):
   Rel C F env (loc.set k (row b T tot ps')) a w':=by
 have hk:k<loc.length:=(List.getElem?_eq_some_iff.1 he).1
 have hmem:row b T tot ps∈loc++C.out:=List.mem_append_left _ (List.mem_of_getElem? he)
 have hbF: ¬F b:=(hR.good.lt _ hmem b Ydz).2
 have hm: ∀j,F j→j<w.heap.size→F j∧w'.heap[j]?=w.heap[j]?:=fun j h1 _=>⟨h1,ho j fun e=>hbF (e ▸ h1)⟩
 have hfar: ∀i (hi:i<(loc++C.out).length),i≠k→b∉((loc++C.out)[i]).foot:=by
   intro i hi hne hbi
   have hkk:(loc++C.out)[k]'Ybh=row b T tot ps:=by
     rw [List.getElem_append_left hk];exact (List.getElem?_eq_some_iff.1 he).2
   rcases Nat.lt_or_gt_of_ne hne with hlt|hlt
   · exact List.pairwise_iff_getElem.1 hR.good.disj i k hi Ybh hlt b hbi (by rw [hkk];simp [row])
   · exact List.pairwise_iff_getElem.1 hR.good.disj k i Ybh hi hlt b (by rw [hkk];simp [row]) hbi
 have hset:loc.set k (row b T tot ps')++C.out=(loc++C.out).set k (row b T tot ps'):=by rw [List.set_append_left _ _ hk]
 refine ⟨⟨?_,?_,?_⟩,fun t q hq=>q.mono (hR.env t q hq) hm,hR.size,hR.defers,?_,?_,hR.grow⟩
 · rw [hset]
   intro e he'
   obtain ⟨i,hi,rfl⟩:=List.mem_iff_getElem.1 he'
   rw [List.getElem_set]
   have hi2:i<(loc++C.out).length:=by simpa using hi
   split
   · exact ⟨cur',hb,hsz,fun i p hp=>let ⟨v,h1,h2⟩:=hps i p hp;⟨v,h1,p.mono h2 hm⟩⟩
   · rename_i hne
     refine ((loc++C.out)[i]).mono (hR.good.rel _ (List.getElem_mem hi2)) hm fun j hj=>ho j fun e=>?_
     subst e
     exact hfar i hi2 (Ne.symm hne) hj
 · rw [hset]
   intro e he' j hj
   rw [hs]
   rcases List.mem_or_eq_of_mem_set he' with h|rfl
   · exact hR.good.lt e h j hj
   · exact hR.good.lt _ hmem j hj
 · rw [hset]
   rw [List.pairwise_iff_getElem]
   intro i j hi hj hij x hx hx'
   rw [List.getElem_set] at hx hx'
   have hi2:i<(loc++C.out).length:=by simpa using hi
   have hj2:j<(loc++C.out).length:=by simpa using hj
   have hd:=List.pairwise_iff_getElem.1 hR.good.disj i j hi2 hj2 hij
   split at hx<;>split at hx'
   · omega
   · rename_i h1 h2
     have:x=b:=by simpa [row] using hx
     subst this
     exact hfar j hj2 (Ne.symm h2) hx'
   · rename_i h1 h2
     have:x=b:=by simpa [row] using hx'
     subst this
     exact hfar i hi2 (Ne.symm h1) hx
   · exact hd x hx hx'
 · refine ⟨hos.trans hR.ch.os,htp.trans hR.ch.tape,hout.trans hR.ch.output,by rw [hs];exact hR.ch.size,fun j hj hx=>(ho j fun e=>?_).trans (hR.ch.block j hj hx)⟩
   subst e
   rcases hR.own _ (List.mem_of_getElem? he) j Ydz with h|h
   · omega
   · exact hx h
 · intro e he' j hj
   rcases List.mem_or_eq_of_mem_set he' with h|rfl
   · exact hR.own e h j hj
   · exact hR.own _ (List.mem_of_getElem? he) j hj
theorem Good.apart {F:Nat→Prop} {loc out:List Ent} {w:World} (hG:Good F (loc++out) w) {k b:Nat} {e:Ent} (he:loc[k]?=some e) (hb:b∈e.foot) {l0:List Ent} (hs:l0.Sublist (loc.eraseIdx k)): ¬U6 l0 b:=by
 rintro ⟨e',he',hb'⟩
 have hm:=hs.subset he'
 obtain ⟨i,hi,rfl⟩:=List.mem_iff_getElem.1 hm
 have hk:k<loc.length:=(List.getElem?_eq_some_iff.1 he).1
 have hkk:(loc++out)[k]'Ybh=e:=by rw [List.getElem_append_left hk];exact (List.getElem?_eq_some_iff.1 he).2
 rw [List.getElem_eraseIdx] at hb'
 split at hb'
 · rename_i hlt
   refine List.pairwise_iff_getElem.1 hG.disj i k Ybh Ybh hlt b ?_ (by rw [hkk];exact hb)
   rw [List.getElem_append_left Yan];exact hb'
 · rename_i hge
   have hi2:i+1<loc.length:=by rw [List.length_eraseIdx] at hi;split at hi<;>omega
   refine List.pairwise_iff_getElem.1 hG.disj k (i+1) Ybh Ybh Yan b (by rw [hkk];exact hb) ?_
   rw [List.getElem_append_left hi2];exact hb'
section
variable {C:Cx} {H:Nat→Prop} {l0:List Ent} {env:Env} {loc:List Ent} {d:Nat} {ty:TypeId} {pos:String} {af:Array Edge} {g:Option (Nat×Bool)} {K:Env→List Ent→Prop}
theorem V4 {dst:Option Tmp} {s x:Operand} {ts:Array TypeId} (h:WO C H ⟨dst,.call ⟨.builtin .append,#[s,x],ts⟩,ty,pos,af,g⟩ K env loc):WO C H ⟨dst,.call ⟨.builtin .append,#[s,x],ts⟩,ty,pos,af,g⟩ K env loc:=h
theorem U7 {dst:Option Tmp} {t:TypeId} {x:Operand} (h:WO C H ⟨dst,.box t x,ty,pos,af,g⟩ K env loc):WO C H ⟨dst,.box t x,ty,pos,af,g⟩ K env loc:=h
theorem Wh {dst:Option Tmp} {t:TypeId} (h:WO C H ⟨dst,.alloc t,ty,pos,af,g⟩ K env loc):WO C H ⟨dst,.alloc t,ty,pos,af,g⟩ K env loc:=h
theorem Xt {dst:Option Tmp} {t:TypeId} {x y:Operand} (h:WO C H ⟨dst,.store t x y,ty,pos,af,g⟩ K env loc):WO C H ⟨dst,.store t x y,ty,pos,af,g⟩ K env loc:=h
theorem Xpo {dst:Option Tmp} {t:TypeId} {x y:Operand} (h:WO C H ⟨dst,.makeSlice t x y,ty,pos,af,g⟩ K env loc):WO C H ⟨dst,.makeSlice t x y,ty,pos,af,g⟩ K env loc:=h
theorem X5 {dst:Option Tmp} {t:TypeId} {n:Nat} {ps:Array (Nat×Operand)} (h:WO C H ⟨dst,.buildSlice t n ps,ty,pos,af,g⟩ K env loc):WO C H ⟨dst,.buildSlice t n ps,ty,pos,af,g⟩ K env loc:=h
theorem Xn {dst:Option Tmp} {x:Operand} {xs:Array Operand} {ts:Array TypeId} (h:WO C H ⟨dst,.call ⟨.value x,xs,ts⟩,ty,pos,af,g⟩ K env loc):WO C H ⟨dst,.call ⟨.value x,xs,ts⟩,ty,pos,af,g⟩ K env loc:=h
theorem V2 {T:TypeId} {x:Operand} {p:SP} {ps:List SP} (hx:ev env x=some p) [hc:AsC p ps] (hk: ∀b,K ((d,ex (.pointer (some ⟨b,0,none⟩)))::env) (row b T ps.length ps::loc)) (hd:Nat.blt d C.N=true:=by rfl):WO C H ⟨some d,.box T x,ty,pos,af,g⟩ K env loc:=by
 constructor
 intro F a w hR
 have hv:=hc.cells F w _ (X8 hR hx)
 have hr:(execOp a.eval ⟨some d,.box T x,ty,pos,af,g⟩).run C.P w= .ok (.value (.pointer (some ⟨w.heap.size,0,none⟩))) (w.alloc (.cells (a.eval x).cells T)):=by
   generalize a.eval=ρ
   simp [execOp,Instr.box,newVar,newRow,go_sem]
 unfold Oper.wp
 rw [hr]
 have h:=hR.alloc (w':=w.alloc (.cells (a.eval x).cells T)) (T:=T) (cur:=(a.eval x).cells) (ps:=ps) (d:=d) (p:=ex (.pointer (some ⟨w.heap.size,0,none⟩))) (v:= .pointer (some ⟨w.heap.size,0,none⟩)) rfl rfl rfl rfl (fun i q hq=>by simpa using hv.at_ i q hq) hd (fun _=>rfl)
 rw [show (a.eval x).cells.size=ps.length by simpa using hv.len] at h
 exact ⟨_,_,_,h,by simp,fun b hb hlt=>⟨hb,hlt⟩,fun b hlt _=>Below.heap_alloc _ _ _ hlt,hk _⟩
theorem X7 {T:TypeId} {sz bt:Nat} {z:Value} [hT:TI C.P T sz bt z] (hk: ∀b,K ((d,ex (.pointer (some ⟨b,0,none⟩)))::env) (row b T z.cells.size (z.cells.toList.map ex)::loc)) (hd:Nat.blt d C.N=true:=by rfl):WO C H ⟨some d,.alloc T,ty,pos,af,g⟩ K env loc:=by
 constructor
 intro F a w hR
 obtain ⟨ti,hi,_,_,hz⟩:=hT.out
 have hr:(execOp a.eval ⟨some d,.alloc T,ty,pos,af,g⟩).run C.P w= .ok (.value (.pointer (some ⟨w.heap.size,0,none⟩))) (w.alloc (.cells z.cells T)):=by
   generalize a.eval=ρ
   simp [execOp,Instr.alloc,zeroValue,Xfk hi,hz,newVar,newRow,go_sem]
 unfold Oper.wp
 rw [hr]
 have h:=hR.alloc (w':=w.alloc (.cells z.cells T)) (T:=T) (cur:=z.cells) (ps:=z.cells.toList.map ex) (d:=d) (p:=ex (.pointer (some ⟨w.heap.size,0,none⟩))) (v:= .pointer (some ⟨w.heap.size,0,none⟩)) rfl rfl rfl rfl (fun i q hq=>by
   rw [List.getElem?_map] at hq
   obtain ⟨u,h1,rfl⟩:=Option.map_eq_some_iff.1 hq
   exact ⟨u,by simpa using h1,rfl⟩) hd (fun _=>rfl)
 exact ⟨_,_,_,h,by simp,fun b hb hlt=>⟨hb,hlt⟩,fun b hlt _=>Below.heap_alloc _ _ _ hlt,hk _⟩
def Xbf (ps:List SP) (off:Nat) (qs:List SP):List SP:=ps.take off++qs++ps.drop (off+qs.length)
theorem Xkv {F:Nat→Prop} {w:World} {ps qs:List SP} {off:Nat} {cur:Array Value} {cs:List Value} (h: ∀(i:Nat) (p:SP),ps[i]?=some p→ ∃v,cur[i]?=some v∧p.rel F w v) (hq:CellsR F w qs cs) (ho:off≤ps.length) (hoc:off≤cur.size):
   ∀(i:Nat) (p:SP),(Xbf ps off qs)[i]?=some p→ ∃v,(cur.toList.take off++cs++cur.toList.drop (off+cs.length)).toArray[i]?=some v∧p.rel F w v:=by
 intro i p hp
 have hl:=hq.len
 unfold Xbf at hp
 rw [List.getElem?_toArray]
 have e1:(ps.take off).length=off:=by rw [List.length_take];omega
 have e2:(cur.toList.take off).length=off:=by rw [List.length_take,Array.length_toList];omega
 by_cases h1:i<off
 · rw [List.append_assoc,List.getElem?_append_left Yan,List.getElem?_take,if_pos h1] at hp
   obtain ⟨v,h2,h3⟩:=h i p hp
   exact ⟨v,by rw [List.append_assoc,List.getElem?_append_left Yan,List.getElem?_take,if_pos h1,Array.getElem?_toList];exact h2,h3⟩
 · by_cases h2:i<off+qs.length
   · rw [List.append_assoc,List.getElem?_append_right Yan,List.getElem?_append_left Yan,e1] at hp
     obtain ⟨v,h3,h4⟩:=hq.at_ _ p hp
     exact ⟨v,by rw [List.append_assoc,List.getElem?_append_right Yan,List.getElem?_append_left Yan,e2];exact h3,h4⟩
   · rw [List.getElem?_append_right Ybh,List.length_append,e1,List.getElem?_drop] at hp
     obtain ⟨v,h3,h4⟩:=h _ p hp
     refine ⟨v,?_,h4⟩
     rw [List.getElem?_append_right Ybh,List.length_append,e2,List.getElem?_drop,Array.getElem?_toList,←h3]
     congr 1
     omega
theorem Xq {t:TypeId} {x y:Operand} {k b off T tot:Nat} {ps qs:List SP} {p:SP} {bt:Nat} {z:Value} (hx:ev env x=some (ex (.pointer (some ⟨b,off,none⟩)))) (hy:ev env y=some p) (he:loc[k]?=some (row b T tot ps)) [hc:AsC p qs] [hs:Scs qs] [hT:TI C.P t qs.length bt z] (hk:K env (loc.set k (row b T tot (Xbf ps off qs)))) (ho:off+qs.length≤ps.length:=by first|omega|exact Nat.le_of_ble_eq_true rfl|(simp;done)|(simp;omega)) (hH:l0.Sublist (loc.eraseIdx k):=by exact List.nil_sublist _):WO C (U6 l0) ⟨none,.store t x y,ty,pos,af,g⟩ K env loc:=by
 constructor
 intro F a w hR
 obtain ⟨ti,hi,hn,_,_⟩:=hT.out
 obtain ⟨cur,h1,h2,h3⟩:=hR.row_at he
 have hv:=hc.cells F w _ (X8 hR hy)
 have hpl:ps.length≤cur.size:=by
   rcases Nat.eq_zero_or_pos ps.length with h0|h0
   · omega
   · obtain ⟨v,h4,_⟩:=h3 (ps.length-1) ps[ps.length-1] (List.getElem?_eq_getElem Yan)
     have:=(Array.getElem?_eq_some_iff.1 h4).1
     omega
 have hl:=hv.len
 have hr:=run_storeCells_at C.P b off T (a.eval y).cells.toList 0 cur w h1 Yan (hv.one hs)
 have hxe:=X8 hR hx
 have hrun:(execOp a.eval ⟨none,.store t x y,ty,pos,af,g⟩).run C.P w= .ok .skip (w.setRow b (cur.toList.take off++(a.eval y).cells.toList++cur.toList.drop (off+(a.eval y).cells.toList.length)).toArray):=by
   have hsz:(a.eval y).cells.size=ti.size:=by simpa [hn] using hl
   generalize a.eval=ρ at hxe hr hsz ⊢
   have hxe':ρ x= .pointer (some ⟨b,off,none⟩):=hxe
   rw [Nat.add_zero] at hr
   simp only [execOp,hxe',Instr.storeAt,Instr.sureAddr,storeVar]
   generalize (ρ y).cells=cs at hr hsz ⊢
   simp [go_sem,Qb hi,hsz,hr]
 unfold Oper.wp
 rw [hrun]
 refine ⟨F,env,_,?_,by simp [World.setRow],fun _ hb _=>hb,fun j hj hF=>setRow_other w b j _ ?_,hk⟩
 case refine_2=>
   rintro rfl
   have hbl:j∈(row j T tot ps).foot:=by simp [row]
   rcases hF with h|h
   · exact (hR.good.lt _ (List.mem_append_left _ (List.mem_of_getElem? he)) j hbl).2 h
   · exact hR.good.apart he hbl hH h
 refine hR.write he (setRow_heap w b cur _ T _ h1) ?_ (Xkv h3 hv Yan Yan) (fun j hj=>setRow_other w b j _ hj) rfl rfl rfl ?_
 · have hl2:(a.eval y).cells.size=qs.length:=by simpa using hl
   simp;omega
 · simp [World.setRow]
theorem X9 {f:FuncId} {fn:Func} {c:Code} {xs:Array Operand} {ts:Array TypeId} {args:List SP} {R:SP→List Ent→Prop} (hf:C.P.funcs[f]?=some fn) (hbody:fn.body=some c) (hc:FnC C.P f args [] R) (ha:xs.toList.map (ev env)=args.map some) (hk: ∀p loc',R p loc'→K ((d,p)::env) (loc'++loc)) (hname:(fn.name== "runtime.NumGoroutine")=false:=by rfl) (hd:Nat.blt d C.N=true:=by rfl):WO C H ⟨some d,.call ⟨.value (.func f),xs,ts⟩,ty,pos,af,g⟩ K env loc:=by
 constructor
 intro F a w hR
 have hcells:CellsR F w args (xs.toList.map a.eval):=by
   have hlen:=congrArg List.length ha
   simp only [List.length_map] at hlen
   refine ⟨by simpa using hlen,fun i p hp=>?_⟩
   have hi:i<args.length:=(List.getElem?_eq_some_iff.1 hp).1
   have h1:(xs.toList.map (ev env))[i]?=(args.map some)[i]?:=by rw [ha]
   rw [List.getElem?_map,List.getElem?_map,hp,List.getElem?_eq_getElem Yan] at h1
   simp only [Option.map_some,Option.some.injEq] at h1
   exact ⟨a.eval (xs.toList[i]'Yan),by rw [List.getElem?_map,List.getElem?_eq_getElem Yan];rfl,X8 hR h1⟩
 have hrun:(execOp a.eval ⟨some d,.call ⟨.value (.func f),xs,ts⟩,ty,pos,af,g⟩).run C.P w= .ok (.enter f (xs.toList.map a.eval).toArray) w:=by
   have he:a.eval (.func f)= .func (.func f) #[] #[]:=rfl
   generalize a.eval=ρ at he ⊢
   have hx:xs.map ρ=(xs.toList.map ρ).toArray:=by apply Array.ext';simp
   simp only [execOp,resolve,he,Deferred.ofValue,Sem.run_bind,Sem.run_pure,Result.andThen_ok,invoke,callFunc]
   have hname': ¬fn.name= "runtime.NumGoroutine":=by simpa using hname
   simp [go_sem,hf,hname',hbody,hx]
 unfold Oper.wp
 rw [hrun]
 refine (hc F w _ (loc++C.out) hR.good hcells).mono ?_
 rintro e w' ⟨v,F',p,loc',rfl,hRp,hp,hG,hch,hgr,hown⟩
 have hblk: ∀b,b<w.heap.size→w'.heap[b]?=w.heap[b]?:=fun b hb=>hch.block b hb (by rintro ⟨e,he,_⟩;cases he)
 refine ⟨F',_,_,?_,hch.size,hgr,fun b hb _=>hblk b hb,hk p loc' hRp⟩
 refine hR.next Yeb (fun b hb hlt=>⟨hgr b hb hlt,hblk b hlt⟩) ?_ ?_ hd hp
 · exact ⟨hch.os.trans hR.ch.os,hch.tape.trans hR.ch.tape,hch.output.trans hR.ch.output,Nat.le_trans hR.ch.size hch.size,fun k hk hx=>(hblk k (Nat.lt_of_lt_of_le hk hR.ch.size)).trans (hR.ch.block k hk hx)⟩
 · intro e he b hb
   rcases List.mem_append.1 he with he|he
   · rcases hown e he b hb with h|⟨e',he',_⟩
     · exact .inl (Nat.le_trans hR.ch.size h)
     · cases he'
   · exact hR.own e he b hb
end
end Go.Fr
namespace Go.Fr
open Go.RowKit Go.Kx
inductive ResV (C:Cx) (env:Env) (loc:List Ent):ResultVar→SP→Prop
 | tmp {t:Nat} {p:SP} (h:look t env=some p):ResV C env loc (.tmp t) p
 | cell1 {t:TypeId} {ad k b T tot off:Nat} {ps:List SP} {p:SP} {d:TypeDesc} (hx:look ad env=some (ex (.pointer (some ⟨b,off,none⟩)))) (he:loc[k]?=some (row b T tot ps)) (hp:ps[off]?=some p) (hu:C.P.underlying t=some d) (hd:Desc.aggB d=false):ResV C env loc (.cell ad t) p
 | cella {t:TypeId} {ad k b T tot off:Nat} {ps:List SP} {d:TypeDesc} {sz bt:Nat} {z:Value} (hx:look ad env=some (ex (.pointer (some ⟨b,off,none⟩)))) (he:loc[k]?=some (row b T tot ps)) (hu:C.P.underlying t=some d) (hd:Desc.aggB d=true) (hT:TI C.P t sz bt z) (hl:Nat.ble (off+sz) ps.length=true):
     ResV C env loc (.cell ad t) (agg ((ps.drop off).take sz))
theorem Xeg {P:Program} {w:World} {ad:Addr}:(asAddr (.pointer (some ad))).run P w= .ok ad w:=rfl
theorem ResV.run {C:Cx} {env:Env} {loc:List Ent} {r:ResultVar} {p:SP} (h:ResV C env loc r p) {F:Nat→Prop} {a:Act} {w:World} (hR:Rel C F env loc a w):
   ∃v,p.rel F w v∧(match r with| .tmp t=>(pure (a.tmps.getD t undef):Sem Value)| .cell ad t=>do loadVar t (←asAddr (a.tmps.getD ad undef))).run C.P w= .ok v w:=by
 cases h with
 | tmp h=>exact ⟨_,hR.env _ _ h,rfl⟩
 | @cell1 t ad k b T tot off ps p d hx he hp hu hd=>
   obtain ⟨v,h1,h2⟩:=(Vr (C:=C) (H:=fun _=>True) (dst:=none) (ty:=0) (pos:= "") (af:= #[]) (g:=none) (t:=t) (x:= .tmp ad) hx he hp hu trivial hd).out F a w hR
   have h3:=h2 w fun _ _ _=>rfl
   have h4:a.eval (.tmp ad)= .pointer (some ⟨b,off,none⟩):=X8 hR (c:= .tmp ad) hx
   have h5:a.tmps.getD ad undef= .pointer (some ⟨b,off,none⟩):=h4
   refine ⟨v,h1,?_⟩
   simp only [h5,Sem.run_bind,Xeg,Result.andThen_ok]
   simp only [execOp,h4,Instr.loadAt,Instr.sureAddr,Sem.run_bind,Sem.run_pure,Result.andThen_ok] at h3
   generalize (loadVar t ⟨b,off,none⟩).run C.P w=r at h3 ⊢
   cases r with
   | ok v' w'=>simp only [Result.andThen_ok,Result.ok.injEq,Next.value.injEq] at h3;obtain ⟨rfl,rfl⟩:=h3;rfl
   | halt=>cases h3
 | @cella t ad k b T tot off ps d sz bt z hx he hu hd hT hl=>
   obtain ⟨v,h1,h2⟩:=(Xfn (C:=C) (H:=fun _=>True) (dst:=none) (ty:=0) (pos:= "") (af:= #[]) (g:=none) (t:=t) (x:= .tmp ad) hx he hu trivial hd hl).out F a w hR
   have h3:=h2 w fun _ _ _=>rfl
   have h4:a.eval (.tmp ad)= .pointer (some ⟨b,off,none⟩):=X8 hR (c:= .tmp ad) hx
   have h5:a.tmps.getD ad undef= .pointer (some ⟨b,off,none⟩):=h4
   refine ⟨v,h1,?_⟩
   simp only [h5,Sem.run_bind,Xeg,Result.andThen_ok]
   simp only [execOp,h4,Instr.loadAt,Instr.sureAddr,Sem.run_bind,Sem.run_pure,Result.andThen_ok] at h3
   generalize (loadVar t ⟨b,off,none⟩).run C.P w=r at h3 ⊢
   cases r with
   | ok v' w'=>simp only [Result.andThen_ok,Result.ok.injEq,Next.value.injEq] at h3;obtain ⟨rfl,rfl⟩:=h3;rfl
   | halt=>cases h3
theorem Good.drop {F:Nat→Prop} {l l' out:List Ent} {w:World} (h:Good F (l++out) w) (hs:l'.Sublist l):Good F (l'++out) w where
 rel e he:=h.rel e ((hs.append (List.Sublist.refl out)).subset he)
 lt e he:=h.lt e ((hs.append (List.Sublist.refl out)).subset he)
 disj:=h.disj.sublist (hs.append (List.Sublist.refl out))
theorem Xgz {fn:Func} {r:ResultVar} {a:Act} {P:Program} {w:World} {v:Value} (hf:fn.results= #[r]) (h:(match r with| .tmp t=>(pure (a.tmps.getD t undef):Sem Value)| .cell ad t=>do loadVar t (←asAddr (a.tmps.getD ad undef))).run P w= .ok v w):(results fn a.tmps).run P w= .ok v w:=by
 unfold results
 rw [hf]
 cases r<;>simp_all [go_sem]
theorem Vk {C:Cx} {fn:Func} {R:SP→List Ent→Prop} {env:Env} {loc loc':List Ent} {r:ResultVar} {p:SP} (hf:fn.results= #[r]) (hr:ResV C env loc r p) (hs:loc'.Sublist loc) (h:R p loc'): ∀F a w,Rel C F env loc a w→ ∃F' v p loc',(results fn a.tmps).run C.P w= .ok v w∧R p loc'∧p.rel F' w v∧Good F' (loc'++C.out) w∧(∀b,C.F0 b→b<C.w0.heap.size→F' b)∧ ∀e∈loc',∀b∈e.foot,C.w0.heap.size≤b∨C.X b:=by
 intro F a w hR
 obtain ⟨v,h1,h2⟩:=hr.run hR
 exact ⟨F,v,p,loc',Xgz hf h2,h,h1,hR.good.drop hs,hR.grow,fun e he=>hR.own e (hs.subset he)⟩
theorem Rn {C:Cx} {fn:Func} {R:SP→List Ent→Prop} {env:Env} {loc loc':List Ent} (hf:fn.results= #[]) (hs:loc'.Sublist loc) (h:R (ex (.tuple #[])) loc'): ∀F a w,Rel C F env loc a w→ ∃F' v p loc',(results fn a.tmps).run C.P w= .ok v w∧R p loc'∧p.rel F' w v∧Good F' (loc'++C.out) w∧(∀b,C.F0 b→b<C.w0.heap.size→F' b)∧ ∀e∈loc',∀b∈e.foot,C.w0.heap.size≤b∨C.X b:=by
 intro F a w hR
 exact ⟨F,.tuple #[],_,loc',results_none hf _ _ _,h,rfl,hR.good.drop hs,hR.grow,fun e he=>hR.own e (hs.subset he)⟩
theorem Xg0 {fn:Func} {r s:ResultVar} {a:Act} {P:Program} {w:World} {v u:Value} (hf:fn.results= #[r,s]) (h:(match r with| .tmp t=>(pure (a.tmps.getD t undef):Sem Value)| .cell ad t=>do loadVar t (←asAddr (a.tmps.getD ad undef))).run P w= .ok v w)
   (k:(match s with| .tmp t=>(pure (a.tmps.getD t undef):Sem Value)| .cell ad t=>do loadVar t (←asAddr (a.tmps.getD ad undef))).run P w= .ok u w):(results fn a.tmps).run P w= .ok (.tuple #[v,u]) w:=by
 have key: ∀f:ResultVar→Sem Value,(f r).run P w= .ok v w→(f s).run P w= .ok u w→((do let vs ←(#[r,s]:Array ResultVar).mapM f;pure (if h:vs.size=1 then vs[0] else .tuple vs)):Sem Value).run P w= .ok (.tuple #[v,u]) w:=by
   intro f h1 h2;simp [h1,h2,go_sem]
 unfold results
 rw [hf]
 exact key _ h k
theorem Xkw {C:Cx} {fn:Func} {R:SP→List Ent→Prop} {env:Env} {loc loc':List Ent} {r s:ResultVar} {p q:SP} (hf:fn.results= #[r,s]) (hr:ResV C env loc r p) (hs':ResV C env loc s q) (hs:loc'.Sublist loc) (h:R (tup [p,q]) loc'): ∀F a w,Rel C F env loc a w→ ∃F' v p loc',(results fn a.tmps).run C.P w= .ok v w∧R p loc'∧p.rel F' w v∧Good F' (loc'++C.out) w∧(∀b,C.F0 b→b<C.w0.heap.size→F' b)∧ ∀e∈loc',∀b∈e.foot,C.w0.heap.size≤b∨C.X b:=by
 intro F a w hR
 obtain ⟨v,h1,h2⟩:=hr.run hR
 obtain ⟨u,h3,h4⟩:=hs'.run hR
 refine ⟨F,_,_,loc',Xg0 hf h2 h4,h,⟨[v,u],rfl,rfl,fun i p hp=>?_⟩,hR.good.drop hs,hR.grow,fun e he=>hR.own e (hs.subset he)⟩
 match i,hp with
 | 0,hp=>cases hp;exact ⟨v,rfl,h1⟩
 | 1,hp=>cases hp;exact ⟨u,rfl,h3⟩
theorem Xg1 {fn:Func} {r s q:ResultVar} {a:Act} {P:Program} {w:World} {v u x:Value} (hf:fn.results= #[r,s,q]) (h:(match r with| .tmp t=>(pure (a.tmps.getD t undef):Sem Value)| .cell ad t=>do loadVar t (←asAddr (a.tmps.getD ad undef))).run P w= .ok v w)
   (k:(match s with| .tmp t=>(pure (a.tmps.getD t undef):Sem Value)| .cell ad t=>do loadVar t (←asAddr (a.tmps.getD ad undef))).run P w= .ok u w) (l:(match q with| .tmp t=>(pure (a.tmps.getD t undef):Sem Value)| .cell ad t=>do loadVar t (←asAddr (a.tmps.getD ad undef))).run P w= .ok x w):(results fn a.tmps).run P w= .ok (.tuple #[v,u,x]) w:=by
 have key: ∀f:ResultVar→Sem Value,(f r).run P w= .ok v w→(f s).run P w= .ok u w→(f q).run P w= .ok x w→((do let vs ←(#[r,s,q]:Array ResultVar).mapM f;pure (if h:vs.size=1 then vs[0] else .tuple vs)):Sem Value).run P w= .ok (.tuple #[v,u,x]) w:=by
   intro f h1 h2 h3;simp [h1,h2,h3,go_sem]
 unfold results
 rw [hf]
 exact key _ h k l
theorem Xpp {C:Cx} {fn:Func} {R:SP→List Ent→Prop} {env:Env} {loc loc':List Ent} {r s x:ResultVar} {p q z:SP} (hf:fn.results= #[r,s,x]) (hr:ResV C env loc r p) (hs':ResV C env loc s q) (hx':ResV C env loc x z) (hs:loc'.Sublist loc) (h:R (tup [p,q,z]) loc'): ∀F a w,Rel C F env loc a w→ ∃F' v p loc',(results fn a.tmps).run C.P w= .ok v w∧R p loc'∧p.rel F' w v∧Good F' (loc'++C.out) w∧(∀b,C.F0 b→b<C.w0.heap.size→F' b)∧ ∀e∈loc',∀b∈e.foot,C.w0.heap.size≤b∨C.X b:=by
 intro F a w hR
 obtain ⟨v,h1,h2⟩:=hr.run hR
 obtain ⟨u,h3,h4⟩:=hs'.run hR
 obtain ⟨y,h5,h6⟩:=hx'.run hR
 refine ⟨F,_,_,loc',Xg1 hf h2 h4 h6,h,⟨[v,u,y],rfl,rfl,fun i p hp=>?_⟩,hR.good.drop hs,hR.grow,fun e he=>hR.own e (hs.subset he)⟩
 match i,hp with
 | 0,hp=>cases hp;exact ⟨v,rfl,h1⟩
 | 1,hp=>cases hp;exact ⟨u,rfl,h3⟩
 | 2,hp=>cases hp;exact ⟨y,rfl,h5⟩
theorem Xg {C:Cx} {env env':Env} {loc loc':List Ent} (he: ∀t q,look t env'=some q→look t env=some q) (hs:loc'.Sublist loc):Leads C env loc env' loc':=fun F _ _ hR=>
 ⟨F,hR.good.drop hs,fun t q hq=>hR.env t q (he t q hq),hR.size,hR.defers,hR.ch,fun e he=>hR.own e (hs.subset he),hR.grow⟩
theorem Xm {env:Env}: ∀t q,look t []=some q→look t env=some q:=fun _ _ h=>by cases h
theorem Xh {env env':Env} {k:Nat} {p:SP} (h:look k env=some p) (hr: ∀t q,look t env'=some q→look t env=some q): ∀t q,look t ((k,p)::env')=some q→look t env=some q:=fun t q hq=>by
 rw [Um] at hq
 split at hq
 · rename_i e;cases hq;rw [e];exact h
 · exact hr t q hq
theorem Ud {α:Type} {fs:α→List SP} {s:Nat} (h: ∀a,(fs a).length=s): ∀l:List α,(l.flatMap fs).length=l.length * s
 | []=>by simp
 | a::l=>by rw [List.flatMap_cons,List.length_append,h,Ud h l,List.length_cons,Nat.succ_mul,Nat.add_comm]
theorem Xcc {C:Cx} {env:Env} {l1 l2:List Ent} {b T tot:Nat} {ps:List SP} {α:Type} {E:Enc α} {fs:α→List SP} {l:List α} {n c:Nat} (hE:Fits E fs) (h0: ∀a,(fs a).length=E.size) (hps:ps=l.flatMap fs) (hn:l.length=n) (htot:tot=c * E.size) (hpos:0<E.size) (hc:c≤maxLen) (hby:n * E.bytes≤140737488355328) {t:Nat} (ht:look t env=some (ex (.slice (some ⟨b,0,none⟩) n c))):
   Leads C env (l1++row b T tot ps::l2) ((t,isl E l)::env) (l1++l2):=by
 intro F a w hR
 have hmem:row b T tot ps∈(l1++row b T tot ps::l2)++C.out:=by simp
 obtain ⟨cur,h1,h2,h3⟩:=hR.good.rel _ hmem
 have hb:=hR.good.lt _ hmem b Ydz
 have hm: ∀k,F k→k<w.heap.size→(F k∨k=b)∧w.heap[k]?=w.heap[k]?:=fun k hk _=>⟨.inl hk,rfl⟩
 have hsub:(l1++l2++C.out).Sublist ((l1++row b T tot ps::l2)++C.out):=((List.Sublist.refl l1).append (List.sublist_cons_self _ _)).append (List.Sublist.refl _)
 have hdis: ∀e∈l1++l2++C.out,b∉e.foot:=by
   intro e he hbe
   have hd:=hR.good.disj
   rw [List.append_assoc,List.cons_append] at hd
   rw [List.append_assoc] at he
   have hd2:=List.pairwise_append.1 hd
   rcases List.mem_append.1 he with he|he
   · exact hd2.2.2 e he _ List.mem_cons_self b hbe Ydz
   · exact (List.pairwise_cons.1 hd2.2.1).1 e he b Ydz hbe
 have hle:n≤c:=by
   rcases Nat.eq_zero_or_pos n with h|h
   · omega
   · have hpl:ps.length=n * E.size:=by
       rw [hps,Ud h0,hn]
     have:0<ps.length:=by rw [hpl];exact Nat.mul_pos h hpos
     obtain ⟨v,h4,_⟩:=h3 (ps.length-1) ps[ps.length-1] (List.getElem?_eq_getElem Yan)
     have h5:=(Array.getElem?_eq_some_iff.1 h4).1
     have h6:n * E.size≤c * E.size:=by omega
     exact Nat.le_of_mul_le_mul_right h6 hpos
 have hcells: ∀i (hi:i<l.length),CellsR (fun k=>F k∨k=b) w (fs l[i]) ((cur.toList.drop (i * E.size)).take E.size):=by
   intro i hi
   have key: ∀j,j<E.size→ps[i * E.size+j]?=(fs l[i])[j]?:=by
     intro j hj
     rw [hps]
     clear hps hn ht hmem h1 h2 h3 hm hsub hdis
     induction l generalizing i with
     | nil=>simp at hi
     | cons x xs ih=>
       rw [List.flatMap_cons]
       cases i with
       | zero=>simp only [Nat.zero_mul,Nat.zero_add,List.getElem_cons_zero];rw [List.getElem?_append_left Yd5]
       | succ i=>
         rw [List.getElem?_append_right (by rw [h0,Nat.succ_mul];omega),h0,List.getElem_cons_succ]
         rw [←ih i Ydt]
         congr 1
         rw [Nat.succ_mul];omega
   have hall: ∀j,j<E.size→ ∃v p,(fs l[i])[j]?=some p∧cur[i * E.size+j]?=some v∧p.rel F w v:=fun j hj=>by
     have hp:(fs l[i])[j]?=some ((fs l[i])[j]'Yd5):=List.getElem?_eq_getElem _
     obtain ⟨v,h4,h5⟩:=h3 _ _ ((key j hj).trans hp)
     exact ⟨v,_,hp,h4,h5⟩
   refine ⟨?_,fun j p hp=>?_⟩
   · rw [List.length_take,List.length_drop,Array.length_toList,h0]
     rcases Nat.eq_zero_or_pos E.size with h|h
     · omega
     · obtain ⟨v,p,_,h4,_⟩:=hall (E.size-1) Yan
       have:=(Array.getElem?_eq_some_iff.1 h4).1
       omega
   · have hj:j<E.size:=by rw [←h0 l[i]];exact (List.getElem?_eq_some_iff.1 hp).1
     obtain ⟨v,q,h4,h5,h6⟩:=hall j hj
     rw [hp] at h4;cases h4
     exact ⟨v,by rw [List.getElem?_take,if_pos hj,List.getElem?_drop,Array.getElem?_toList];exact h5,p.mono h6 hm⟩
 have hsl:Sl E (fun k=>F k∨k=b) w (some ⟨b,0,none⟩) n c l:=by
   refine ⟨hn,hle,hc,hby,(fun h=>by cases h),fun i hi=>⟨b,0,_,rfl,.inr rfl,hb.1,?_,fun j hj=>?_,hE.inn (hcells i hi)⟩⟩
   · rw [(hcells i hi).len,h0]
   · rw [List.getElem?_take,if_pos hj,List.getElem?_drop,Array.getElem?_toList]
     simp [World.cell?,h1]
 refine ⟨fun k=>F k∨k=b,⟨fun e he=>e.mono (hR.good.rel e (hsub.subset he)) hm fun _ _=>rfl,fun e he k hk=>⟨(hR.good.lt e (hsub.subset he) k hk).1,?_⟩,hR.good.disj.sublist hsub⟩,fun t' q hq=>?_,hR.size,hR.defers,hR.ch,fun e he=>hR.own e ?_,fun k hk hlt=> .inl (hR.grow k hk hlt)⟩
 · rintro (h|rfl)
   · exact (hR.good.lt e (hsub.subset he) k hk).2 h
   · exact hdis e he hk
 · rw [Um] at hq
   split at hq
   · rename_i e;cases hq;subst e
     have hv:a.tmps.getD t' undef= .slice (some ⟨b,0,none⟩) n c:=hR.env _ _ ht
     rw [hv]
     exact ⟨_,_,_,rfl,hsl⟩
   · exact q.mono (hR.env t' q hq) hm
 · rcases List.mem_append.1 he with h|h
   · exact List.mem_append_left _ h
   · exact List.mem_append_right _ (List.mem_cons_of_mem _ h)
end Go.Fr
namespace Go.Fr
open Go.RowKit Go.Kx
theorem Xbg {C:Cx} {ops:Array Oper} {Q:Post} {l:List Oper} {env env':Env} {loc loc':List Ent} (hl:Leads C env loc env' loc') (h:WPL C ops Q l env' loc'):WPL C ops Q l env loc:=⟨fun F a w hR=>let ⟨F',hR'⟩:=hl F a w hR;h.out F' a w hR'⟩
theorem Wf {C:Cx} {c:Code} {Q:Post} {env env':Env} {loc loc':List Ent} (hl:Leads C env loc env' loc') (h:WP C c Q env' loc'):WP C c Q env loc:=⟨fun F a w hR=>let ⟨F',hR'⟩:=hl F a w hR;h.out F' a w hR'⟩
def cutP {α:Type} (C:Cx) (I:α→Env×List Ent) (ok:α→Prop) (Q:Post):Post:=fun e env loc=>match e with
 | .normal=> ∃x,ok x∧Leads C env loc (I x).1 (I x).2
 | e=>Q e env loc
theorem Xpq {α:Type} {C:Cx} {x y:Code} {Q:Post} {env:Env} {loc:List Ent} (I:α→Env×List Ent) (ok:α→Prop) (h:WP C x (cutP C I ok Q) env loc) (k: ∀z,ok z→WP C y Q (I z).1 (I z).2):WP C (.seq x y) Q env loc:=by
 constructor
 intro F a w hR
 refine wp_seq (Code.wp_mono ?_ (h.out F a w hR))
 rintro e a' w' ⟨F',env',loc',hR',hq⟩
 cases e with
 | normal=>
   obtain ⟨z,hz,hl⟩:=hq
   obtain ⟨F2,hR2⟩:=hl F' a' w' hR'
   exact (k z hz).out F2 a' w' hR2
 | _=>exact ⟨F',env',loc',hR',hq⟩
theorem Rc {α:Type} {C:Cx} (id:Nat) {ops:Array Oper} {dr:Bool} {y:Code} {Q:Post} {env:Env} {loc:List Ent} (I:α→Env×List Ent) (ok:α→Prop) (h:WP C (.region id ops dr) (cutP C I ok Q) env loc) (k: ∀z,ok z→WP C y Q (I z).1 (I z).2):WP C (.seq (.region id ops dr) y) Q env loc:=Xpq I ok h k
theorem Vs (id:Nat) {C:Cx} {ops:Array Oper} {dr:Bool} {y:Code} {Q:Post} {env:Env} {loc:List Ent} (h:WP C (.seq (.region id ops dr) y) Q env loc):WP C (.seq (.region id ops dr) y) Q env loc:=h
theorem Wc {α:Type} {C:Cx} {I:α→Env×List Ent} {ok:α→Prop} {Q:Post} {env:Env} {loc:List Ent} (z:α) (hz:ok z) (hl:Leads C env loc (I z).1 (I z).2):cutP C I ok Q .normal env loc:=⟨z,hz,hl⟩
theorem Xkx {C:Cx} {env:Env} {loc loc':List Ent} (hs:loc'.Sublist loc):Leads C env loc env loc':=Xg (fun _ _ h=>h) hs
def vec (v:Value) (T:TypeId) (sz n:Nat) (ps:List SP):Ent where
 foot:=match v.ownBlock with|some b=>[b]|none=>[]
 rel F w:= ∃xs,w.ownsRow 0 T sz v n xs∧CellsR F w ps xs
 mono:=by
   rintro S S' w w' ⟨xs,h1,h2⟩ hk hf
   refine ⟨xs,⟨h1.1,?_⟩,h2.mono hk⟩
   rcases h1.2 with h|⟨b,cap,cur,rfl,h3,h4,h5⟩
   · exact .inl h
   · exact .inr ⟨b,cap,cur,rfl,h3,(hf b (by simp [Value.ownBlock])).trans h4,h5⟩
theorem Xo3 {v:Value} {T:TypeId} {sz n:Nat} {ps:List SP} {b:Nat}:b∈(vec v T sz n ps).foot↔v.ownBlock=some b:=by
 show b∈(match v.ownBlock with|some b=>[b]|none=>[])↔_
 cases v.ownBlock with
 | none=>simp
 | some c=>simp [eq_comm]
theorem Qc {C:Cx} {env:Env} {loc:List Ent} {k:Nat} {e e':Ent} (he:loc[k]?=some e) (hf: ∀b,b∈e'.foot→b∈e.foot) (hr: ∀F w,e.rel F w→e'.rel F w):LeadsS C env loc env (loc.set k e'):=by
 intro F a w hR
 have hk:k<loc.length:=(List.getElem?_eq_some_iff.1 he).1
 have hset:loc.set k e'++C.out=(loc++C.out).set k e':=by rw [List.set_append_left _ _ hk]
 have hmem:e∈loc++C.out:=List.mem_append_left _ (List.mem_of_getElem? he)
 refine ⟨⟨?_,?_,?_⟩,hR.env,hR.size,hR.defers,hR.ch,?_,hR.grow⟩
 · rw [hset];intro x hx
   rcases List.mem_or_eq_of_mem_set hx with h|rfl
   · exact hR.good.rel x h
   · exact hr F w (hR.good.rel e hmem)
 · rw [hset];intro x hx b hb
   rcases List.mem_or_eq_of_mem_set hx with h|rfl
   · exact hR.good.lt x h b hb
   · exact hR.good.lt e hmem b (hf b hb)
 · rw [hset,List.pairwise_iff_getElem]
   intro i j hi hj hij b hb hb'
   rw [List.getElem_set] at hb hb'
   have hi2:i<(loc++C.out).length:=by simpa using hi
   have hj2:j<(loc++C.out).length:=by simpa using hj
   have hd:=List.pairwise_iff_getElem.1 hR.good.disj i j hi2 hj2 hij
   have hek:(loc++C.out)[k]'Ybh=e:=by rw [List.getElem_append_left hk];exact (List.getElem?_eq_some_iff.1 he).2
   split at hb<;>split at hb'
   · omega
   · rename_i h1 _;subst h1;rw [hek] at hd;exact hd b (hf b hb) hb'
   · rename_i _ h2;subst h2;rw [hek] at hd;exact hd b hb (hf b hb')
   · exact hd b hb hb'
 · intro x hx b hb
   rcases List.mem_or_eq_of_mem_set hx with h|rfl
   · exact hR.own x h b hb
   · exact hR.own e (List.mem_of_getElem? he) b (hf b hb)
theorem Xo4 {F:Nat→Prop} {w:World} {ps:List SP} {cur:Array Value} (h: ∀(i:Nat) (p:SP),ps[i]?=some p→ ∃v,cur[i]?=some v∧p.rel F w v) (hl:ps.length≤cur.size):CellsR F w ps (cur.toList.take ps.length):=
 ⟨by
     have e:cur.toList.length=cur.size:=Array.length_toList
     rw [List.length_take];omega,fun i p hp=>by
   obtain ⟨v,h1,h2⟩:=h i p hp
   have:i<ps.length:=(List.getElem?_eq_some_iff.1 hp).1
   exact ⟨v,by rw [List.getElem?_take,if_pos this,Array.getElem?_toList];exact h1,h2⟩⟩
theorem Xnr {F:Nat→Prop} {w:World} {ps:List SP} {cur:Array Value} (h: ∀(i:Nat) (p:SP),ps[i]?=some p→ ∃v,cur[i]?=some v∧p.rel F w v):ps.length≤cur.size:=by
 rcases Nat.eq_zero_or_pos ps.length with h0|h0
 · omega
 · obtain ⟨v,h4,_⟩:=h (ps.length-1) ps[ps.length-1] (List.getElem?_eq_getElem Yan)
   have:=(Array.getElem?_eq_some_iff.1 h4).1
   omega
theorem Sn {C:Cx} {env:Env} {loc:List Ent} {k b T tot sz n c:Nat} {ps:List SP} (he:loc[k]?=some (row b T tot ps)) (ht:tot=c * sz) (hn:ps.length=n * sz) (h0:0<sz) (hc:c≤maxLen):LeadsS C env loc env (loc.set k (vec (.slice (some ⟨b,0,none⟩) n c) T sz n ps)):=by
 refine Qc he (fun x hx=>?_) ?_
 · have:=Xo3.1 hx
   simpa [row,Value.ownBlock,eq_comm] using this
 · rintro F w ⟨cur,h1,h2,h3⟩
   have hl:=Xnr h3
   refine ⟨cur.toList.take ps.length,⟨by
                                          have e:cur.toList.length=cur.size:=Array.length_toList
                                          rw [List.length_take];omega,.inr ⟨b,c,cur,rfl,Nat.zero_le _,h1,?_,hc,by omega,by rw [hn]⟩⟩,Xo4 h3 hl⟩
   exact Nat.le_of_mul_le_mul_right (by omega:n * sz≤c * sz) h0
theorem Ro {C:Cx} {env:Env} {loc:List Ent} {T sz:Nat}:LeadsS C env loc env (vec (.slice none 0 0) T sz 0 []::loc):=by
 intro F a w hR
 have hf: ∀b,b∉(vec (.slice none 0 0) T sz 0 []).foot:=fun b hb=>by have:=Xo3.1 hb;simp [Value.ownBlock] at this
 refine ⟨⟨fun e he=>?_,fun e he b hb=>?_,List.pairwise_cons.2 ⟨fun e he b hb=>absurd hb (hf b),hR.good.disj⟩⟩,hR.env,hR.size,hR.defers,hR.ch,fun e he b hb=>?_,hR.grow⟩
 · rcases List.mem_cons.1 he with rfl|he
   · exact ⟨[],⟨by simp,.inl ⟨rfl,rfl⟩⟩,rfl,fun i p hp=>by cases hp⟩
   · exact hR.good.rel e he
 · rcases List.mem_cons.1 he with rfl|he
   · exact absurd hb (hf b)
   · exact hR.good.lt e he b hb
 · rcases List.mem_cons.1 he with rfl|he
   · exact absurd hb (hf b)
   · exact hR.own e he b hb
theorem Xfp {C:Cx} {F:Nat→Prop} {env:Env} {loc:List Ent} {a:Act} {w:World} (hR:Rel C F env loc a w) {k T sz n:Nat} {v:Value} {ps:List SP} (he:loc[k]?=some (vec v T sz n ps)) (hn:0<n): ∃b c,v= .slice (some ⟨b,0,none⟩) n c∧n≤c∧c≤maxLen:=by
 obtain ⟨xs,h1,h2⟩:=hR.good.rel _ (List.mem_append_left _ (List.mem_of_getElem? he))
 rcases h1.2 with ⟨_,h⟩|⟨b,cap,cur,rfl,_,_,h3,h4,_⟩
 · omega
 · exact ⟨b,cap,rfl,h3,h4⟩
theorem Xae {C:Cx} {env:Env} {loc:List Ent} {k b T sz n c:Nat} {ps:List SP} (he:loc[k]?=some (vec (.slice (some ⟨b,0,none⟩) n c) T sz n ps)):LeadsS C env loc env (loc.set k (row b T (c * sz) ps)):=by
 refine Qc he (fun x hx=>Xo3.2 ?_) ?_
 · have:x=b:=by simpa [row] using hx
   subst this;rfl
 · rintro F w ⟨xs,h1,h2⟩
   rcases h1.2 with ⟨h,_⟩|⟨b',cap,cur,h,_,h3,h4,h5,h6,h7⟩
   · cases h
   · cases h
     refine ⟨cur,h3,h6,fun i p hp=>?_⟩
     obtain ⟨v,h8,h9⟩:=h2.at_ i p hp
     refine ⟨v,?_,h9⟩
     rw [←h7,List.getElem?_take] at h8
     split at h8
     · rw [←Array.getElem?_toList];exact h8
     · cases h8
def Src (C:Cx) (env:Env) (loc:List Ent) (x:Operand) (sz m:Nat) (qs:List SP):Prop:=
 ∀F a w,Rel C F env loc a w→ ∃ao c news,a.eval x= .slice ao m c∧(ao=none→m=0∧c=0)∧news.length=m * sz∧CellsR F w qs news∧(∀ad,ao=some ad→ ∀j u,news[j]?=some u→w.cell? (ad.add j)=some u)∧ ∀u∈news,u.oneCell'=true
theorem Xo5 {C:Cx} {env:Env} {loc:List Ent} {x:Operand} {α:Type} {E:Enc α} {fs:α→List SP} {l:List α} (hx:ev env x=some (isl E l)) [hE:Fits E fs] (h0: ∀a,(fs a).length=E.size:=by exact fun _=>rfl) (hpos:0<E.size:=by first|decide|exact Yd7) (hs: ∀a,Scs (fs a):=by exact fun _=>inferInstance):Src C env loc x E.size l.length (l.flatMap fs):=by
 intro F a w hR
 obtain ⟨ao,n,c,hv,hsl⟩:=X8 hR hx
 obtain ⟨xs,hel,hc⟩:=hsl.cells hpos
 have hl:=hsl.length
 subst hl
 have hcell: ∀i (hi:i<l.length),CellsR F w (fs l[i]) ((xs.drop (i * E.size)).take E.size):=fun i hi=>hE.out (hel.elem i hi)
 have hrel:CellsR F w (l.flatMap fs) xs:=by
   have hlen:=hel.length
   clear hsl hc hv hel hx
   induction l generalizing xs with
   | nil=>simp at hlen;subst hlen;exact ⟨rfl,fun i p hp=>by cases hp⟩
   | cons y ys ih=>
     have h1:=hcell 0 Ybn
     simp only [Nat.zero_mul,List.drop_zero,List.getElem_cons_zero] at h1
     have h2:=ih (xs.drop E.size) (fun i hi=>by have:=hcell (i+1) Ydt;simpa [List.drop_drop,Nat.succ_mul,Nat.add_comm] using this) (by rw [List.length_drop,hlen];simp [Nat.succ_mul])
     rw [List.flatMap_cons]
     refine ⟨by rw [hlen,List.length_append,h0,Ud h0,List.length_cons,Nat.succ_mul];omega,fun i p hp=>?_⟩
     by_cases hi:i<(fs y).length
     · rw [List.getElem?_append_left hi] at hp
       obtain ⟨v,h3,h4⟩:=h1.at_ i p hp
       rw [List.getElem?_take,if_pos (by rw [←h0 y];exact hi)] at h3
       exact ⟨v,h3,h4⟩
     · rw [List.getElem?_append_right Yan] at hp
       obtain ⟨v,h3,h4⟩:=h2.at_ _ p hp
       rw [List.getElem?_drop,h0] at h3
       rw [h0] at hi
       exact ⟨v,by rw [←h3];congr 1;omega,h4⟩
 refine ⟨ao,c,xs,hv,fun h=>hsl.none_zero h,hel.length,hrel,hc,hrel.one ⟨?_⟩⟩
 intro p hp
 obtain ⟨y,_,hp⟩:=List.mem_flatMap.1 hp
 exact (hs y).out p hp
theorem Xdi {C:Cx} {env:Env} {loc:List Ent} {x:Operand} {α:Type} {E:Enc α} {fs:α→List SP} {l:List α} {sz:Nat} (hx:ev env x=some (isl E l)) [hE:Fits E fs] (hz:E.size=sz:=by rfl) (h0: ∀a,(fs a).length=E.size:=by exact fun _=>rfl) (hpos:0<E.size:=by first|decide|exact Yd7) (hs: ∀a,Scs (fs a):=by exact fun _=>inferInstance):Src C env loc x sz l.length (l.flatMap fs):=hz ▸ Xo5 hx h0 hpos hs
theorem Xbz {C:Cx} {env:Env} {loc:List Ent} {x:Operand} {k b off T tot sz m c:Nat} {ps qs:List SP} (hx:ev env x=some (ex (.slice (some ⟨b,off,none⟩) m c))) (he:loc[k]?=some (row b T tot ps)) (hq:(ps.drop off).take (m * sz)=qs) [hs:Scs qs] (hl:qs.length=m * sz:=by first|rfl|(simp;done)|(simp;omega)):Src C env loc x sz m qs:=by
 intro F a w hR
 obtain ⟨cur,h1,h2,h3⟩:=hR.row_at he
 have hlen:=Xnr h3
 have hrel:CellsR F w qs ((cur.toList.drop off).take (m * sz)):=by
   refine ⟨?_,fun i p hp=>?_⟩
   · have:(List.take (m * sz) (List.drop off ps)).length=m * sz:=by rw [hq,hl]
     rw [List.length_take,List.length_drop] at this
     rw [List.length_take,List.length_drop,Array.length_toList,hl];omega
   · have hi:i<m * sz:=by rw [←hl];exact (List.getElem?_eq_some_iff.1 hp).1
     rw [←hq,List.getElem?_take,if_pos hi,List.getElem?_drop] at hp
     obtain ⟨v,h4,h5⟩:=h3 _ p hp
     exact ⟨v,by rw [List.getElem?_take,if_pos hi,List.getElem?_drop,Array.getElem?_toList];exact h4,h5⟩
 refine ⟨some ⟨b,off,none⟩,c,_,X8 hR hx,fun h=>(by cases h),by rw [hrel.len,hl],hrel,fun ad had j u hu=>?_,hrel.one hs⟩
 cases had
 rw [List.getElem?_take] at hu
 split at hu
 · rw [List.getElem?_drop,Array.getElem?_toList] at hu
   rw [Sw];simp [World.cell?,h1,hu]
 · cases hu
theorem Rel.vec_write {C:Cx} {F:Nat→Prop} {env:Env} {loc:List Ent} {a:Act} {w w':World} {k T sz n n':Nat} {v v':Value} {ps ps':List SP} {xs':List Value} {d:Nat} (hR:Rel C F env loc a w) (he:loc[k]?=some (vec v T sz n ps)) (hown:w'.ownsRow 0 T sz v' n' xs') (hrel:CellsR F w ps' xs') (hgrow:w.grownBy w' v.ownBlock)
   (hnew: ∀b,v'.ownBlock=some b→b<w'.heap.size∧(v.ownBlock=some b∨w.heap.size≤b)) (hd:Nat.blt d C.N=true):Rel C (fun j=>F j∧j<w.heap.size) ((d,ex v')::env) (loc.set k (vec v' T sz n' ps')) (a.put (some d) v') w':=by
 have hk:k<loc.length:=(List.getElem?_eq_some_iff.1 he).1
 have hmem:vec v T sz n ps∈loc++C.out:=List.mem_append_left _ (List.mem_of_getElem? he)
 have hvF: ∀b,v.ownBlock=some b→b<w.heap.size∧ ¬F b:=fun b hb=>hR.good.lt _ hmem b (Xo3.2 hb)
 have hm: ∀j,F j→j<w.heap.size→(F j∧j<w.heap.size)∧w'.heap[j]?=w.heap[j]?:=fun j h1 h2=>⟨⟨h1,h2⟩,hgrow.block j h2 fun e=>(hvF j e.symm).2 h1⟩
 have hkk:(loc++C.out)[k]'Ybh=vec v T sz n ps:=by rw [List.getElem_append_left hk];exact (List.getElem?_eq_some_iff.1 he).2
 have hfar: ∀i (hi:i<(loc++C.out).length),i≠k→ ∀b,v.ownBlock=some b→b∉((loc++C.out)[i]).foot:=by
   intro i hi hne b hb hbi
   rcases Nat.lt_or_gt_of_ne hne with hlt|hlt
   · exact List.pairwise_iff_getElem.1 hR.good.disj i k hi Ybh hlt b hbi (by rw [hkk];exact Xo3.2 hb)
   · exact List.pairwise_iff_getElem.1 hR.good.disj k i Ybh hi hlt b (by rw [hkk];exact Xo3.2 hb) hbi
 have hset:loc.set k (vec v' T sz n' ps')++C.out=(loc++C.out).set k (vec v' T sz n' ps'):=by rw [List.set_append_left _ _ hk]
 have hnot: ∀i (hi:i<(loc++C.out).length),i≠k→ ∀b,v'.ownBlock=some b→b∉((loc++C.out)[i]).foot:=by
   intro i hi hne b hb hbi
   rcases (hnew b hb).2 with h|h
   · exact hfar i hi hne b h hbi
   · have:=(hR.good.lt _ (List.getElem_mem hi) b hbi).1;omega
 refine hR.next ⟨?_,?_,?_⟩ hm ?_ ?_ hd rfl
 · rw [hset]
   intro e he'
   obtain ⟨i,hi,rfl⟩:=List.mem_iff_getElem.1 he'
   rw [List.getElem_set]
   have hi2:i<(loc++C.out).length:=by simpa using hi
   split
   · exact ⟨xs',hown,hrel.mono hm⟩
   · rename_i hne
     exact ((loc++C.out)[i]).mono (hR.good.rel _ (List.getElem_mem hi2)) hm fun j hj=>hgrow.block j (hR.good.lt _ (List.getElem_mem hi2) j hj).1 fun e=>hfar i hi2 (Ne.symm hne) j e.symm hj
 · rw [hset]
   intro e he' j hj
   rcases List.mem_or_eq_of_mem_set he' with h|rfl
   · have:=hR.good.lt e h j hj
     exact ⟨Nat.lt_of_lt_of_le this.1 hgrow.size,fun hh=>this.2 hh.1⟩
   · have hj':=Xo3.1 hj
     refine ⟨(hnew j hj').1,fun hh=>?_⟩
     rcases (hnew j hj').2 with h|h
     · exact (hvF j h).2 hh.1
     · omega
 · rw [hset,List.pairwise_iff_getElem]
   intro i j hi hj hij x hx hx'
   rw [List.getElem_set] at hx hx'
   have hi2:i<(loc++C.out).length:=by simpa using hi
   have hj2:j<(loc++C.out).length:=by simpa using hj
   have hd:=List.pairwise_iff_getElem.1 hR.good.disj i j hi2 hj2 hij
   split at hx<;>split at hx'
   · omega
   · rename_i _ h2;exact hnot j hj2 (Ne.symm h2) x (Xo3.1 hx) hx'
   · rename_i h1 _;exact hnot i hi2 (Ne.symm h1) x (Xo3.1 hx') hx
   · exact hd x hx hx'
 · refine ⟨hgrow.os.trans hR.ch.os,hgrow.tape.trans hR.ch.tape,hgrow.output.trans hR.ch.output,Nat.le_trans hR.ch.size hgrow.size,fun j hj hx=>(hgrow.block j (Nat.lt_of_lt_of_le hj hR.ch.size) fun e=>?_).trans (hR.ch.block j hj hx)⟩
   rcases hR.own _ (List.mem_of_getElem? he) j (Xo3.2 e.symm) with h|h
   · omega
   · exact hx h
 · intro e he' j hj
   rcases List.mem_or_eq_of_mem_set he' with h|rfl
   · exact hR.own e h j hj
   · rcases (hnew j (Xo3.1 hj)).2 with h|h
     · exact hR.own _ (List.mem_of_getElem? he) j (Xo3.2 h)
     · exact .inl (Nat.le_trans hR.ch.size h)
section
variable {C:Cx} {l0:List Ent} {env:Env} {loc:List Ent} {d:Nat} {ty:TypeId} {pos:String} {af:Array Edge} {g:Option (Nat×Bool)} {K:Env→List Ent→Prop}
theorem CellsR.app {F:Nat→Prop} {w:World} {ps qs:List SP} {cs ds:List Value} (h:CellsR F w ps cs) (k:CellsR F w qs ds):CellsR F w (ps++qs) (cs++ds):=by
 have h1:=h.len
 refine ⟨by rw [List.length_append,List.length_append,h.len,k.len],fun i p hp=>?_⟩
 by_cases hi:i<ps.length
 · rw [List.getElem?_append_left hi] at hp
   rw [List.getElem?_append_left Yan]
   exact h.at_ i p hp
 · rw [List.getElem?_append_right Yan] at hp
   rw [List.getElem?_append_right Yan,h1]
   exact k.at_ _ p hp
theorem V5 {s x:Operand} {t e k n m:Nat} {v:Value} {ps qs:List SP} {sz bt:Nat} {z:Value} (hs:ev env s=some (ex v)) (he:loc[k]?=some (vec v e sz n ps)) (hx:Src C env loc x sz m qs) (ht:C.P.underlying t=some (.slice e)) [hT:TI C.P e sz bt z] (hk: ∀v',K ((d,ex v')::env) (loc.set k (vec v' e sz (n+m) (ps++qs)))) (hzs:(z.cells.size==sz)=true:=by rfl) (h0:Nat.blt 0 sz=true:=by rfl) (hl:n+m≤maxLen:=by first|omega|(simp only [maxLen];omega)|(simp [maxLen];omega)) (hb:(n+m) * bt≤140737488355328:=by first|omega|(simp only [maxLen];omega)|(simp [maxLen];omega)) (hd:Nat.blt d C.N=true:=by rfl) (hH:l0.Sublist (loc.eraseIdx k):=by exact List.nil_sublist _):WO C (U6 l0) ⟨some d,.call ⟨.builtin .append,#[s,x],#[t,t]⟩,ty,pos,af,g⟩ K env loc:=by
 constructor
 intro F a w hR
 obtain ⟨ti,hi,rfl,rfl,hz⟩:=hT.out
 obtain ⟨xs,hown,hrel⟩:=hR.good.rel _ (List.mem_append_left _ (List.mem_of_getElem? he))
 obtain ⟨ao,c,news,hv,hno,hln,hnr,hcell,hone⟩:=hx F a w hR
 have h0':=U4 h0
 have hsv:a.eval s=v:=X8 hR hs
 have hrun: ∃v' w',(Builtin.append_ #[t,t] ty #[a.eval s,a.eval x]).run C.P w= .ok v' w'∧w'.ownsRow 0 e ti.size v' (n+m) (xs++news)∧w.grownBy w' v.ownBlock∧(v'.ownBlock=v.ownBlock∨v'.ownBlock=some w.heap.size):=by
   rw [hsv,hv]
   cases ao with
   | none=>
     obtain ⟨rfl,rfl⟩:=hno rfl
     have hn0:news=[]:=List.eq_nil_of_length_eq_zero (by simpa using hln)
     subst hn0
     exact ⟨v,w,run_append_owned_none (P:=C.P) (w:=w) 0 t ty e ti ti.size ht hi v n xs hown,by simpa using hown,⟨rfl,rfl,rfl,Nat.le_refl _,fun _ _ _=>rfl⟩,.inl rfl⟩
   | some ad=>
     obtain ⟨v',w',h1,h2,h3,_,h4⟩:=run_append_own_at (P:=C.P) w 0 t ty e ti z ti.size ti.bytes ht hi hz rfl rfl (by simpa using hzs) h0' v n xs hown ad m c news hln (hcell ad rfl) hone hl hb (Nat.zero_le _)
     exact ⟨v',w',h1,h2,h3,h4⟩
 obtain ⟨v',w',h1,h2,h3,h4⟩:=hrun
 have hex:(execOp a.eval ⟨some d,.call ⟨.builtin .append,#[s,x],#[t,t]⟩,ty,pos,af,g⟩).run C.P w= .ok (.value v') w':=by
   generalize a.eval=ρ at h1 ⊢
   simp only [execOp,resolve,invoke,builtin,Sem.run_bind,Sem.run_pure,Result.andThen_ok,List.map_toArray,List.map_cons,List.map_nil,h1]
 unfold Oper.wp
 rw [hex]
 have hmem:=List.mem_append_left C.out (List.mem_of_getElem? he)
 refine ⟨_,_,_,hR.vec_write he h2 (hrel.app hnr) h3 (fun b hb=>?_) hd,h3.size,fun b hb hlt=>⟨hb,hlt⟩,fun b hb hF=>h3.block b hb fun e=>?_,hk _⟩
 case refine_2=>
   rcases hF with h|h
   · exact (hR.good.lt _ hmem b (Xo3.2 e.symm)).2 h
   · exact hR.good.apart he (Xo3.2 e.symm) hH h
 have hlt:b<w'.heap.size:=by
   rcases h2.2 with ⟨rfl,_⟩|⟨b',_,_,rfl,_,h5,_⟩
   · cases hb
   · cases hb;exact (Array.getElem?_eq_some_iff.1 h5).1
 rcases h4 with h|h
 · exact ⟨hlt,.inl (h ▸ hb)⟩
 · rw [h] at hb;cases hb;exact ⟨hlt,.inr (Nat.le_refl _)⟩
end
end Go.Fr
namespace Go.Fr
open Go.RowKit Go.Kx
theorem Sl.sub {α:Type} {E:Enc α} {F:Nat→Prop} {w:World} {a:Option Addr} {n c:Nat} {l:List α} (h:Sl E F w a n c l) (lo hi m:Nat) (h1:lo≤hi) (h2:hi≤n) (h3:hi≤m) (h4:m≤c):
   Sl E F w (if m=lo then a else a.map (·.add (lo * E.size))) (hi-lo) (m-lo) ((l.take hi).drop lo):=by
 have hl:=h.length
 have hcm:=h.capMax
 have hb:=h.bytes
 refine ⟨by rw [List.length_drop,List.length_take];omega,by omega,by omega,Nat.le_trans (Nat.mul_le_mul_right _ Yan) hb,fun ha=>?_,fun i hi'=>?_⟩
 · split at ha
   · omega
   · have:=h.nil (by simpa using ha);omega
 · have hil:lo+i<l.length:=by rw [List.length_drop,List.length_take] at hi';omega
   have hlt:i<hi-lo:=by rw [List.length_drop,List.length_take] at hi';omega
   obtain ⟨b,off,cs,rfl,h6,h7,h8,h9,h10⟩:=h.elem (lo+i) hil
   rw [if_neg Yan]
   refine ⟨b,off+lo * E.size,cs,by simp [Sw],h6,h7,h8,fun j hj=>?_,by rw [List.getElem_drop,List.getElem_take];exact h10⟩
   rw [←h9 j hj]
   congr 2
   rw [Nat.add_mul];omega
section
variable {C:Cx} {S:(Nat→Prop)→World→World→Prop} {H:Nat→Prop} {env:Env} {loc:List Ent} {dst:Option Tmp} {ty:TypeId} {pos:String} {af:Array Edge} {g:Option (Nat×Bool)}
theorem Xns {P:Program} {k:IntKind} {i y:Nat} {code:BoundsCode} {w:World} (h:i≤y):(Instr.sliceBound (.int k i) y code).run P w= .ok i w:=by
 have:(i:Int)≤(y:Int):=by omega
 simp [Instr.sliceBound,asIntOf,h,go_sem]
theorem Xil {α:Type} {E:Enc α} {l:List α} {t e:TypeId} {x y:Operand} {k:IntKind} {a1:Int} {lo bt:Nat} {zv:Value} (hx:ev env x=some (isl E l)) (hy:ev env y=some (exI k a1)) [e1:Nt a1 lo] (ht:C.P.underlying t=some (.slice e)) [hT:TI C.P e E.size bt zv] (h1:lo≤l.length:=by first|omega|(simp;done)|(simp;omega)):
   WT C S ⟨dst,.slice t x (some y) none none,ty,pos,af,g⟩ (isl E (l.drop lo)) env loc:=by
 constructor
 intro F a w hR
 obtain ⟨ti,hi',hsz,_,_⟩:=hT.out
 obtain ⟨rfl⟩:=e1
 obtain ⟨ao,n,c,hv,hs⟩:=X8 hR hx
 have hvy:a.eval y= .int k lo:=X8 hR hy
 have hn:=hs.length
 have hc:=hs.cap
 have h:=Sl.sub hs lo n c Yan (Nat.le_refl _) hc (Nat.le_refl _)
 rw [List.take_of_length_le Yan] at h
 refine ⟨_,⟨_,_,_,rfl,h⟩,fun _ _=>?_⟩
 generalize a.eval=ρ at hv hvy ⊢
 simp [execOp,hv,hvy,Instr.sliceAt,Vz ht,Instr.slice,Instr.sliceBounds,Xns (show lo≤n by omega),Qb hi',hsz,go_sem]
theorem Xnt {b off n:Nat} {t e:TypeId} {x y:Operand} {k:IntKind} {m:Int} {i sz bt:Nat} {z:Value} (hx:ev env x=some (ex (.pointer (some ⟨b,off,none⟩)))) (hy:ev env y=some (exI k m)) [hm:Nt m i] (ht:C.P.underlying t=some (.array n e)) [hT:TI C.P e sz bt z] (hl:i<n:=by first|omega|(simp;done)|(simp;omega)):
   WT C S ⟨dst,.indexAddr t x y,ty,pos,af,g⟩ (ex (.pointer (some ⟨b,off+i * sz,none⟩))) env loc:=by
 constructor
 intro F a w hR
 obtain ⟨ti,hi,rfl,_,_⟩:=hT.out
 obtain ⟨rfl⟩:=hm
 have hv:a.eval x= .pointer (some ⟨b,off,none⟩):=X8 hR hx
 have hvy:a.eval y= .int k i:=X8 hR hy
 refine ⟨_,rfl,fun _ _=>?_⟩
 generalize a.eval=ρ at hv hvy ⊢
 simp [execOp,hv,hvy,Instr.indexAt,Instr.sureAddr,asIntOf,Vz ht,hl,Sw,Qb hi,go_sem]
theorem Xpr {x y:Operand} {t u:TypeId} {p q:Bool} (hx:ev env x=some (exB p)) (hy:ev env y=some (exB q)) (ht:C.P.underlying t=some .bool):WT C S ⟨dst,.binOp .eql t x y u,ty,pos,af,g⟩ (exB (p==q)) env loc:=by
 constructor
 intro F a w hR
 have h1:a.eval x= .bool p:=X8 hR hx
 have h2:a.eval y= .bool q:=X8 hR hy
 refine ⟨_,rfl,fun w' _=>?_⟩
 generalize a.eval=ρ at h1 h2 ⊢
 have hb:=run_eql_bool (P:=C.P) w' t p q ht
 simp only [execOp,h1,h2,eqGuard]
 generalize binOp .eql t (.bool p) (.bool q)=s at hb ⊢
 simp [hb,go_sem]
theorem Xrp {x y:Operand} {t u:TypeId} {p q:Bool} (hx:ev env x=some (exB p)) (hy:ev env y=some (exB q)) (ht:C.P.underlying t=some .bool):WT C S ⟨dst,.binOp .neq t x y u,ty,pos,af,g⟩ (exB (!(p==q))) env loc:=by
 constructor
 intro F a w hR
 have h1:a.eval x= .bool p:=X8 hR hx
 have h2:a.eval y= .bool q:=X8 hR hy
 refine ⟨_,rfl,fun w' _=>?_⟩
 generalize a.eval=ρ at h1 h2 ⊢
 have hb:=run_neq_bool (P:=C.P) w' t p q ht
 simp only [execOp,h1,h2,eqGuard]
 generalize binOp .neq t (.bool p) (.bool q)=s at hb ⊢
 simp [hb,go_sem]
theorem Xdj {P:Program} {t u:TypeId} {x y:Operand} {p q:ByteArray} {a:Act} (op:BinOp) (hx:a.eval x= .string p) (hy:a.eval y= .string q) (w:World):
   (execOp a.eval ⟨dst,.binOp op t x y u,ty,pos,af,g⟩).run P w=(do pure (.value (←binOp op t (.string p) (.string q))):Sem Next).run P w:=by
 simp only [execOp,hx,hy,eqGuard]
 cases op<;>rfl
theorem Xqu (p q:ByteArray):(p.toList==q.toList)=decide (p=q):=by
 rw [Bool.eq_iff_iff];simp only [beq_iff_eq,decide_eq_true_eq]
 refine ⟨fun h=>?_,fun h=>by rw [h]⟩
 rw [ByteArray.toList_eq,ByteArray.toList_eq] at h
 cases p;cases q;simpa using h
theorem Xrq {x y:Operand} {t u:TypeId} {p q:ByteArray} (hx:ev env x=some (ex (.string p))) (hy:ev env y=some (ex (.string q))):WT C S ⟨dst,.binOp .eql t x y u,ty,pos,af,g⟩ (exB (decide (p=q))) env loc:=
 ⟨fun _ a _ hR=>⟨_,rfl,fun w' _=>by rw [Xdj _ (X8 hR hx) (X8 hR hy),←Xqu];rfl⟩⟩
theorem Xrr {x y:Operand} {t u:TypeId} {p q:ByteArray} (hx:ev env x=some (ex (.string p))) (hy:ev env y=some (ex (.string q))):WT C S ⟨dst,.binOp .neq t x y u,ty,pos,af,g⟩ (exB (!decide (p=q))) env loc:=
 ⟨fun _ a _ hR=>⟨_,rfl,fun w' _=>by rw [Xdj _ (X8 hR hx) (X8 hR hy),←Xqu];rfl⟩⟩
theorem Xbh {fn:Fn} {caps:Array Operand} {vs:List Value} (h:caps.toList.map (ev env)=vs.map (fun v=>some (ex v))):WT C S ⟨dst,.makeFunc fn #[] caps,ty,pos,af,g⟩ (ex (.func fn #[] vs.toArray)) env loc:=by
 constructor
 intro F a w hR
 refine ⟨_,rfl,fun w' _=>?_⟩
 have hv:caps.map a.eval=vs.toArray:=by
   have hlen:=congrArg List.length h
   simp only [List.length_map] at hlen
   apply Array.ext'
   simp only [Array.toList_map]
   apply List.ext_getElem?
   intro i
   have h1:(caps.toList.map (ev env))[i]?=(vs.map (fun v=>some (ex v)))[i]?:=by rw [h]
   rw [List.getElem?_map,List.getElem?_map] at h1
   rw [List.getElem?_map]
   cases h2:caps.toList[i]? with
   | none=>
     rw [h2] at h1
     cases h3:vs[i]? with
     | none=>rfl
     | some v=>rw [h3] at h1;cases h1
   | some x=>
     rw [h2] at h1
     cases h3:vs[i]? with
     | none=>rw [h3] at h1;cases h1
     | some v=>
       rw [h3] at h1
       simp only [Option.map_some,Option.some.injEq] at h1
       have:=X8 hR h1
       simp only [Option.map_some,Option.some.injEq]
       exact this
 simp [execOp,Instr.makeFunc,hv,go_sem]
end
end Go.Fr
