/- Chapter 13: the parser reads expressions: how deep, and sums of terms. -/
import Derived.Test.YthdldeenpgeemaaGreatDoorPart7
import Derived.Test.YthdldeenpgeemaaGreatDoorPart5
import Derived.Test.YthdldeenpgeemaaGreatDoorPart6
namespace Go.Proofs.YthdldeenpgeemaaGreatDoor
open Go Go.RowKit Go.Kx Go.Fr Go.Lx Go.Sx
abbrev zeroC : List SP := [exI .i64 0, exT [], exI .i64 0, exI .i64 0, ex (.slice none 0 0)]
def ExprC (f : FuncId) (g : Nat → List TokD → Res Ex) (n : Nat) : Prop := ∀ (b : Nat) (ts : List TokD) (en : Nat) (qs : List SP), ts.length ≤ 70000 → FnP Tryz.prog f [ex (.pointer (some ⟨b, 0, none⟩)), exI .i64 ((16 - n : Nat) : Int)] [prow b ts en qs] (fun p loc => ∃ (k : Nat) (x : Ex) (r : List TokD), g n ts = .ok (x, r) ∧ p = agg (exV k x) ∧ loc = [prow b r en qs]) (fun ch loc => ∃ e, g n ts = .error e ∧ wrongP en e ch loc)
set_option maxHeartbeats 4000000 in
set_option maxRecDepth 100000 in
theorem deeper13_yes (b : Nat) (ts : List TokD) (en : Nat) (qs : List SP) (n : Nat) (hn : n + 1 ≤ 16) : FnC Tryz.prog 228 [ex (.pointer (some ⟨b, 0, none⟩)), exI .i64 ((16 - (n + 1) : Nat) : Int)] [prow b ts en qs] (fun p loc => p = exI .i64 ((16 - n : Nat) : Int) ∧ loc = [prow b ts en qs]) := by
 have h1 : ((16 - n : Nat) : Int) = ((16 - (n + 1) : Nat) : Int) + 1 := by omega
 rw [h1]
 refine Zbr Tryz.func228 rfl Tryz.ntmps228 rfl fun w0 F0 out => ?_
 (repeat' (first | refine Za7 ?_ | refine Za1 ?_ | refine Za3 ?_ | (apply Za8; (first | exact Za2 rfl | exact Za5 rfl | (apply Zai; first | exact WT_geq rfl rfl | exact Zbz rfl rfl)); exact rfl) | refine Zan ?_ | refine Zb2 ?_ | (refine Zag rfl (fun hb => ?_) (fun hb => ?_) <;> (repeat (first | replace hb := Zas hb | replace hb := Zat hb)) <;> (try (exfalso; omega)))))
 all_goals (try (exfalso; first | contradiction | omega))
 exact ⟨.inr rfl, ret1 rfl (.tmp rfl) (List.Sublist.refl _) ⟨rfl, rfl⟩⟩
set_option maxHeartbeats 4000000 in
set_option maxRecDepth 100000 in
theorem deeper13_no (b : Nat) (ts : List TokD) (en : Nat) (qs : List SP) : FnP Tryz.prog 228 [ex (.pointer (some ⟨b, 0, none⟩)), exI .i64 16] [prow b ts en qs] (fun _ _ => False) (wrongP en ts) := by
 have hfa := fail13_any b ts en qs
 refine Zc0 Tryz.func228 rfl Tryz.ntmps228 rfl fun w0 F0 out => ?_
 (repeat' (first | (apply Zaq 8; refine Zb7 (.one 0 rfl .nil) Tryz.func87 rfl hfa rfl ?_ ?_) | refine Za7 ?_ | refine Za1 ?_ | refine Za3 ?_ | (apply Za8; (first | exact Za2 rfl | exact Za5 rfl | (apply Zai; exact WT_geq rfl rfl)); exact rfl) | refine Zaw rfl ?_))
 all_goals (try (exfalso; first | contradiction | omega))
 · rintro _ _ h; exact h.elim
 · rintro ch loc ⟨rfl, rfl⟩
   ((repeat (first | (with_reducible refine Zbd ?_) | (with_reducible refine Zbn ?_))); refine Zar (loc' := []) (List.nil_sublist _) ?_)
   exact And.intro rfl rfl
set_option maxHeartbeats 4000000 in
set_option maxRecDepth 100000 in
theorem expr13_any (n : Nat) (_hn : n ≤ 16) (ht : ExprC 212 termN n) : ExprC 189 exprN n := by
 intro b ts en qs hts
 have k1 := ht b ts en qs hts
 refine Zc0 Tryz.func189 rfl Tryz.ntmps189 rfl fun w0 F0 out => ?_
 generalize hres : exprN n ts = res
 unfold exprN exprOf at hres
 (repeat' (first | (apply Zaq 9; refine Zb7 (.one 1 rfl .nil) Tryz.func212 rfl k1 rfl ?_ ?_) | refine Za7 ?_ | refine Za1 ?_ | refine Za3 ?_ | (apply Za8; (exact Za2 rfl); exact rfl) | (apply Zac; exact rfl; (apply Zbs; refine Zbh ?_; intro _))))
 rotate_left
 · rintro ch loc ⟨e, g1, rfl, rfl⟩; ((repeat (first | (with_reducible refine Zbd ?_) | (with_reducible refine Zbn ?_))); refine Zar (loc' := []) (List.nil_sublist _) ?_); exact ⟨e, hres.symm.trans (Zap g1), rfl, rfl⟩
 rintro _ loc ⟨k0, x0, t0, g1, rfl, rfl⟩
 have hl0 := (lw_termT n).len g1
 rw [Zal g1] at hres
 rename_i b4
 (repeat' (first | refine Za3 ?_ | refine Zak ?_ | (apply Zac; exact rfl; first | (apply Zbs; refine Zbh ?_; intro _) | (apply Zaz; refine Zao (k := 0) (l0 := []) rfl rfl rfl ?_))))
 rename_i b5
 refine Zck (fun x : Nat × Ex × List TokD => ([(0, ex (.pointer (some ⟨b, 0, none⟩))), (1, exI .i64 ((16 - n : Nat) : Int)), (4, ex (.pointer (some ⟨b4, 0, none⟩))), (5, ex (.pointer (some ⟨b5, 0, none⟩)))], [prow b x.2.2 en qs, row b5 52 5 (exV x.1 x.2.1), row b4 52 5 zeroC])) (fun x => runP addT (addStep (termN n)) x.2.1 x.2.2 = res ∧ x.2.2.length ≤ ts.length) (fun x => x.2.2.length) (k0, x0, t0) ?_ ⟨hres, hl0⟩ fun x hx => ?_
 · refine Leads.trans (Leads_perm (.swap _ _ _)) ?_
   exact Zaa (by repeat (first | exact Zaj | refine Zae rfl ?_)) (List.Sublist.refl _)
 obtain ⟨k, x, t⟩ := x
 obtain ⟨hinv, hle⟩ := hx
 simp only at hinv hle ⊢
 clear hres
 rw [Zde rfl (less_addStep (lw_termT n))] at hinv
 have htk := Zc3 b t en qs sPlus
 cases hT : isT sPlus t
 · rw [hT, if_neg (by simp)] at htk
   have htm := Zc3 b t en qs sMinus
   cases hM : isT sMinus t
   · rw [hM, if_neg (by simp)] at htm
     rw [show addT t = false by unfold addT; rw [hT, hM]; rfl, if_neg (by simp)] at hinv
     (repeat' (first | refine Za7 ?_ | refine Za1 ?_ | refine Za3 ?_ | (apply Za8; (first | exact Za2 rfl | exact Za5 rfl | (apply Za9; exact Zbm (k := 1) rfl rfl rfl)); exact rfl) | refine Zak ?_ | refine Zb2 ?_ | refine Zb0 rfl ?_ | (apply Zac; exact rfl; first | (apply Zaf; first | (refine Zab (.one 0 rfl .nil) Tryz.func155 rfl htk rfl ?_; rintro _ _ ⟨rfl, rfl⟩) | (refine Zab (.one 0 rfl .nil) Tryz.func155 rfl htm rfl ?_; rintro _ _ ⟨rfl, rfl⟩)) | (apply Zaz; refine Zao (k := 2) (l0 := []) rfl rfl rfl ?_))))
     all_goals (try (exfalso; first | contradiction | omega))
     exact ⟨.inr rfl, ret1 rfl (.cella (k := 2) rfl rfl rfl rfl inferInstance rfl) (by exact .cons_cons _ (List.nil_sublist _)) ⟨_, _, _, hinv.symm, rfl, rfl⟩⟩
   rw [hM, if_pos rfl] at htm
   obtain ⟨t1, t2, rfl, -, -⟩ := isT_cons hM
   have k2 := ht b t2 en qs (by simp only [List.length_cons] at hle; omega)
   have hw : addStep (termN n) x (t1 :: t2) = bnd (termN n) (fun y => ret (.mk 7 [] 0 0 [x, y])) t2 := by
     unfold addStep; rw [if_neg (by rw [hT]; simp)]; exact Zal (want_yes hM)
   simp only [List.length_cons] at hle
   rw [show addT (t1 :: t2) = true by unfold addT; rw [hT, hM]; rfl, if_pos rfl] at hinv
   (repeat' (first | (apply Zcj 8; refine Stop.out ?_) | refine Za7 ?_ | refine Za1 ?_ | refine Za3 ?_ | (apply Za8; (first | exact Za2 rfl | exact Za5 rfl); exact rfl) | refine Zak ?_ | refine Zaw rfl ?_ | refine Zb0 rfl ?_ | (apply Zac; exact rfl; (apply Zaf; first | (refine Zab (.one 0 rfl .nil) Tryz.func155 rfl htk rfl ?_; rintro _ _ ⟨rfl, rfl⟩) | (refine Zab (.one 0 rfl .nil) Tryz.func155 rfl htm rfl ?_; rintro _ _ ⟨rfl, rfl⟩)))))
   all_goals (try (exfalso; first | contradiction | omega))
   refine ⟨?_⟩
   refine WP_pan (K := wrongK en res) (fun ch env loc ⟨e, h1, h2⟩ => ?_) ?_
   · ((repeat (first | (with_reducible refine Zbd ?_) | (with_reducible refine Zbn ?_))); refine Zar (loc' := []) (List.nil_sublist _) ?_)
     exact ⟨e, h1, h2, rfl⟩
   refine Zbc (env' := [(0, ex (.pointer (some ⟨b, 0, none⟩))), (1, exI .i64 ((16 - n : Nat) : Int)), (4, ex (.pointer (some ⟨b4, 0, none⟩))), (5, ex (.pointer (some ⟨b5, 0, none⟩))), (6, exI .i64 7)]) (loc' := [prow b t2 en qs, row b5 52 5 (exV k x), row b4 52 5 zeroC]) (Zaa (by repeat (first | exact Zaj | refine Zae rfl ?_)) (List.Sublist.refl _)) ?_
   (refine Zdb ([row b5 52 5 (exV k x)]) 7 rfl ?_)
   all_goals ((apply Zc7 0 rfl (by decide +kernel) rfl Zcl Za0; (first | exact Za2 rfl); exact rfl))
   all_goals ((apply WPY_takeE 1 rfl (by decide +kernel) rfl (by decide +kernel) Zcl Za0; (first | (apply Za9; first | exact Zbm (k := 1) rfl rfl rfl)); exact rfl))
   all_goals ((apply Zc7 2 rfl (by decide +kernel) rfl Zcl Za0; (first | exact Za2 rfl); exact rfl))
   all_goals ((apply Zc7 3 rfl (by decide +kernel) rfl Zcl Za0; (first | exact Za2 rfl); exact rfl))
   all_goals ((apply WPY_oneP 4; exact (by decide +kernel); exact rfl; exact Za0; exact (fun _ _ h => h); (refine WOP_callPH (.one 0 rfl .nil) Tryz.func212 rfl k2 (by exact .cons_cons _ (List.nil_sublist _)) rfl ?_ ?_; rotate_left; (rintro ch loc ⟨e, g1, rfl, rfl⟩; exact ⟨e, hinv.symm.trans (Zap (hw.trans (Zap g1))), rfl⟩); rintro _ loc ⟨k', y, t3, g1, rfl, rfl⟩; rw [Zal (hw.trans (Zal g1))] at hinv)))
   all_goals ((apply Zbe 5; exact (by decide +kernel); exact rfl; exact Za0; exact (fun _ _ h => h); (apply Zb6; (refine Zbx rfl (by repeat (first | exact PartsO.nil | (apply PartsO.cons; exact rfl; exact inferInstance; exact rfl; exact rfl))) ?_); intro _)))
   all_goals ((apply Zc7 6 rfl (by decide +kernel) rfl Zcl Za0; ((apply Zcz; exact Zcg rfl rfl (by repeat (first | exact PartsO.nil | (apply PartsO.cons; exact rfl; exact inferInstance; exact rfl; exact rfl))))); exact rfl))
   all_goals ((apply Zbe 7; exact (by decide +kernel); exact rfl; exact Za0; exact (fun h => absurd h (by decide)); (apply Zaz; refine Zao (k := 2) (hH := (by repeat (exact List.nil_sublist _))) rfl rfl rfl ?_)))
   all_goals (refine Zbu (by decide +kernel) ?_)
   rename_i b22
   have hl3 := (lw_termT n).len g1
   refine ⟨(max k k' + 1, .mk 7 [] 0 0 [x, y], t3), ⟨hinv, by show t3.length ≤ _; omega⟩, by show t3.length < (t1 :: t2).length; simp only [List.length_cons]; omega, ?_⟩
   refine Leads.trans (Leads_row_im (k := 0) (b := b22) (T := 52) (tot := 10) (ps := exV k x ++ exV k' y) rfl (ims_app (exV_le (Nat.le_max_left k k') x) (exV_le (Nat.le_max_right k k') y))) ?_
   refine Leads_row_vec (k := 0) (sz := 5) (n := 2) (c := 2) rfl rfl rfl (by decide) (by decide) ?_
   refine Leads.trans (Leads_fcell (j := 0) (k := 1) (i := 4) (E := eEx (max k k')) [x, y] rfl rfl rfl rfl rfl rfl (hby := by show 2 * 64 ≤ _; decide)) ?_
   exact Zaa (by repeat (first | exact Zaj | refine Zae rfl ?_)) (List.Sublist.refl _)
 · rw [hT, if_pos rfl] at htk
   obtain ⟨t1, t2, rfl, -, -⟩ := isT_cons hT
   have k2 := ht b t2 en qs (by simp only [List.length_cons] at hle; omega)
   have hw : addStep (termN n) x (t1 :: t2) = bnd (termN n) (fun y => ret (.mk 6 [] 0 0 [x, y])) t2 := by
     unfold addStep; rw [if_pos hT]; exact Zal (want_yes hT)
   simp only [List.length_cons] at hle
   rw [show addT (t1 :: t2) = true by unfold addT; rw [hT]; rfl, if_pos rfl] at hinv
   (repeat' (first | (apply Zcj 8; refine Stop.out ?_) | refine Za7 ?_ | refine Za1 ?_ | refine Za3 ?_ | (apply Za8; (first | exact Za2 rfl | exact Za5 rfl); exact rfl) | refine Zak ?_ | refine Zaw rfl ?_ | (apply Zac; exact rfl; (apply Zaf; (refine Zab (.one 0 rfl .nil) Tryz.func155 rfl htk rfl ?_; rintro _ _ ⟨rfl, rfl⟩)))))
   all_goals (try (exfalso; first | contradiction | omega))
   refine ⟨?_⟩
   refine WP_pan (K := wrongK en res) (fun ch env loc ⟨e, h1, h2⟩ => ?_) ?_
   · ((repeat (first | (with_reducible refine Zbd ?_) | (with_reducible refine Zbn ?_))); refine Zar (loc' := []) (List.nil_sublist _) ?_)
     exact ⟨e, h1, h2, rfl⟩
   refine Zbc (env' := [(0, ex (.pointer (some ⟨b, 0, none⟩))), (1, exI .i64 ((16 - n : Nat) : Int)), (4, ex (.pointer (some ⟨b4, 0, none⟩))), (5, ex (.pointer (some ⟨b5, 0, none⟩))), (6, exI .i64 6)]) (loc' := [prow b t2 en qs, row b5 52 5 (exV k x), row b4 52 5 zeroC]) (Zaa (by repeat (first | exact Zaj | refine Zae rfl ?_)) (List.Sublist.refl _)) ?_
   (refine Zdb ([row b5 52 5 (exV k x)]) 7 rfl ?_)
   all_goals ((apply Zc7 0 rfl (by decide +kernel) rfl Zcl Za0; (first | exact Za2 rfl); exact rfl))
   all_goals ((apply WPY_takeE 1 rfl (by decide +kernel) rfl (by decide +kernel) Zcl Za0; (first | (apply Za9; first | exact Zbm (k := 1) rfl rfl rfl)); exact rfl))
   all_goals ((apply Zc7 2 rfl (by decide +kernel) rfl Zcl Za0; (first | exact Za2 rfl); exact rfl))
   all_goals ((apply Zc7 3 rfl (by decide +kernel) rfl Zcl Za0; (first | exact Za2 rfl); exact rfl))
   all_goals ((apply WPY_oneP 4; exact (by decide +kernel); exact rfl; exact Za0; exact (fun _ _ h => h); (refine WOP_callPH (.one 0 rfl .nil) Tryz.func212 rfl k2 (by exact .cons_cons _ (List.nil_sublist _)) rfl ?_ ?_; rotate_left; (rintro ch loc ⟨e, g1, rfl, rfl⟩; exact ⟨e, hinv.symm.trans (Zap (hw.trans (Zap g1))), rfl⟩); rintro _ loc ⟨k', y, t3, g1, rfl, rfl⟩; rw [Zal (hw.trans (Zal g1))] at hinv)))
   all_goals ((apply Zbe 5; exact (by decide +kernel); exact rfl; exact Za0; exact (fun _ _ h => h); (apply Zb6; (refine Zbx rfl (by repeat (first | exact PartsO.nil | (apply PartsO.cons; exact rfl; exact inferInstance; exact rfl; exact rfl))) ?_); intro _)))
   all_goals ((apply Zc7 6 rfl (by decide +kernel) rfl Zcl Za0; ((apply Zcz; exact Zcg rfl rfl (by repeat (first | exact PartsO.nil | (apply PartsO.cons; exact rfl; exact inferInstance; exact rfl; exact rfl))))); exact rfl))
   all_goals ((apply Zbe 7; exact (by decide +kernel); exact rfl; exact Za0; exact (fun h => absurd h (by decide)); (apply Zaz; refine Zao (k := 2) (hH := (by repeat (exact List.nil_sublist _))) rfl rfl rfl ?_)))
   all_goals (refine Zbu (by decide +kernel) ?_)
   rename_i b22
   have hl3 := (lw_termT n).len g1
   refine ⟨(max k k' + 1, .mk 6 [] 0 0 [x, y], t3), ⟨hinv, by show t3.length ≤ _; omega⟩, by show t3.length < (t1 :: t2).length; simp only [List.length_cons]; omega, ?_⟩
   refine Leads.trans (Leads_row_im (k := 0) (b := b22) (T := 52) (tot := 10) (ps := exV k x ++ exV k' y) rfl (ims_app (exV_le (Nat.le_max_left k k') x) (exV_le (Nat.le_max_right k k') y))) ?_
   refine Leads_row_vec (k := 0) (sz := 5) (n := 2) (c := 2) rfl rfl rfl (by decide) (by decide) ?_
   refine Leads.trans (Leads_fcell (j := 0) (k := 1) (i := 4) (E := eEx (max k k')) [x, y] rfl rfl rfl rfl rfl rfl (hby := by show 2 * 64 ≤ _; decide)) ?_
   exact Zaa (by repeat (first | exact Zaj | refine Zae rfl ?_)) (List.Sublist.refl _)
end Go.Proofs.YthdldeenpgeemaaGreatDoor
namespace Go.Fr
open Go.RowKit Go.Kx
theorem leafI (k : Int) (nm : List UInt8) (n d : Int) : Ims [exI .i64 k, exT nm, exI .i64 n, exI .i64 d, ex (.slice none 0 0)] (exV 1 (.mk k nm n d [])) := .cons (Im.refl _) (.cons (Im.refl _) (.cons (Im.refl _) (.cons (Im.refl _) (.cons Im.nil .nil))))
end Go.Fr
namespace Go.Proofs.YthdldeenpgeemaaGreatDoor
open Go Go.RowKit Go.Kx Go.Fr Go.Lx Go.Sx
def facN : Nat → List TokD → Res Ex
 | 0 => factorB false (fun ts => .error ts)
 | n + 1 => factorB true (exprN n)
set_option maxHeartbeats 8000000 in
set_option maxRecDepth 100000 in
theorem factor_name (n : Nat) (hn : n ≤ 16) (b : Nat) (ts : List TokD) (en : Nat) (qs : List SP) (hts : ts.length ≤ 70000) (h0 : Sx.isName ts = true) : FnP Tryz.prog 227 [ex (.pointer (some ⟨b, 0, none⟩)), exI .i64 ((16 - n : Nat) : Int)] [prow b ts en qs] (fun p loc => ∃ (k : Nat) (x : Ex) (r : List TokD), facN n ts = .ok (x, r) ∧ p = agg (exV k x) ∧ loc = [prow b r en qs]) (fun ch loc => ∃ e, facN n ts = .error e ∧ wrongP en e ch loc) := by
 have hnm := isName13_any b ts en qs
 rw [h0] at hnm
 have hf : facN n ts = bnd nameP (fun nm => ret (.mk 2 nm 0 0 [])) ts := by cases n <;> exact if_pos h0
 rw [hf]
 cases ts with
 | nil => cases h0
 | cons t r =>
   have hl : (t :: r).length = r.length + 1 := rfl
   have hres : bnd nameP (fun nm => ret (Ex.mk 2 nm 0 0 [])) (t :: r) = .ok (.mk 2 t.text 0 0 [], r) := Zal (name_yes h0)
   rw [hres]
   replace hres : (Except.ok (.mk 2 t.text 0 0 [], r) : Res Ex) = .ok (.mk 2 t.text 0 0 [], r) := rfl
   refine Zc0 Tryz.func227 rfl Tryz.ntmps227 rfl fun w0 F0 out => ?_
   (repeat' (first | (apply Zcj 7; refine Stop.out ?_) | refine Za7 ?_ | refine Za1 ?_ | refine Za3 ?_ | (apply Za8; (first | exact Za2 rfl | exact Za5 rfl); exact rfl) | refine Zak ?_ | refine Zaw rfl ?_ | (apply Zac; exact rfl; first | (apply Zaf; (refine Zab (.one 1 rfl .nil) Tryz.func183 rfl hnm rfl ?_; rintro _ _ ⟨rfl, rfl⟩)) | (apply Zbs; refine Zbh ?_; intro _))))
   all_goals (try (exfalso; first | contradiction | omega))
   refine ⟨?_⟩
   refine WP_pan (K := fun _ _ => False) (fun _ _ _ h => h.elim) ?_
   (refine Zdb ([prow b (t :: r) en qs]) 11 rfl ?_)
   all_goals ((apply Zc7 0 rfl (by decide +kernel) rfl Zcl Za0; (first | exact Za2 rfl); exact rfl))
   all_goals ((apply Zc7 1 rfl (by decide +kernel) rfl Zcl Za0; (first | (apply Zbi; first | exact Zb9 rfl)); exact rfl))
   all_goals ((apply Zc7 2 rfl (by decide +kernel) rfl Zcl Za0; (first | (apply Zam; first | exact Zad rfl rfl rfl)); exact rfl))
   all_goals ((apply WPY_takeE 3 rfl (by decide +kernel) rfl (by decide +kernel) Zcl Za0; (first | (apply Za9; first | exact Zah (k := 0) rfl rfl rfl rfl)); exact rfl))
   all_goals ((apply Zc7 4 rfl (by decide +kernel) rfl Zcl Za0; (first | (apply Zb3; first | exact Zb1 rfl rfl rfl)); exact rfl))
   all_goals ((apply Zc7 5 rfl (by decide +kernel) rfl Zcl Za0; (first | (apply Zam; first | exact Zax rfl rfl rfl)); exact rfl))
   all_goals ((apply WPY_takeE 6 rfl (by decide +kernel) rfl (by decide +kernel) Zcl Za0; (first | (apply Za9; first | exact Zau rfl rfl)); exact rfl))
   all_goals ((apply Zc7 7 rfl (by decide +kernel) rfl Zcl Za0; (first | (apply Zam; first | exact Zad rfl rfl rfl)); exact rfl))
   all_goals ((apply Zbe 8; exact (by decide +kernel); exact rfl; exact Za0; exact (fun _ _ h => h); (apply Zaz; refine Zao (k := 1) (hH := (by repeat (first | exact List.nil_sublist _ | apply List.Sublist.cons_cons))) rfl rfl rfl ?_)))
   all_goals ((apply Zc7 9 rfl (by decide +kernel) rfl Zcl Za0; (first | (apply Zam; first | exact Zad rfl rfl rfl)); exact rfl))
   all_goals ((apply Zbe 10; exact (by decide +kernel); exact rfl; exact Za0; exact (fun _ _ h => h); (apply Zaz; refine Zao (k := 1) (hH := (by repeat (first | exact List.nil_sublist _ | apply List.Sublist.cons_cons))) rfl rfl rfl ?_)))
   all_goals (refine Zbu (by decide +kernel) ?_)
   all_goals ((repeat' (first | refine Za7 ?_ | refine Za1 ?_ | refine Za3 ?_ | (apply Za8; (first | exact Za2 rfl | (apply Za9; first | exact Zah (k := 0) rfl rfl rfl rfl | exact Zbm (k := 1) rfl rfl rfl) | (apply Zam; exact Zad rfl rfl rfl) | (apply g_slice; exact WT_slcl rfl rfl rfl) | (apply Zbi; exact Zb9 rfl)); exact rfl) | refine Zb2 ?_ | (apply Zac; exact rfl; (apply Zaz; first | refine Zao (k := 0) (l0 := []) rfl rfl rfl ?_ | refine Zao (k := 1) (l0 := []) rfl rfl rfl ?_)))))
   all_goals (try (exfalso; first | contradiction | omega))
   exact ⟨.inr rfl, retw (ret1 rfl (.cella (k := 1) rfl rfl rfl rfl inferInstance rfl) (by exact .cons_cons _ (List.nil_sublist _)) ⟨rfl, rfl⟩) (Ims.agg (leafI _ _ _ _)) ⟨1, _, _, hres.symm, rfl, rfl⟩⟩
set_option maxHeartbeats 8000000 in
set_option maxRecDepth 100000 in
theorem factor_bonus (n : Nat) (hn : n ≤ 16) (b : Nat) (ts : List TokD) (en : Nat) (qs : List SP) (_hts : ts.length ≤ 70000) (h0 : Sx.isName ts = false) (h1 : isT wBonus ts = true) : FnP Tryz.prog 227 [ex (.pointer (some ⟨b, 0, none⟩)), exI .i64 ((16 - n : Nat) : Int)] [prow b ts en qs] (fun p loc => ∃ (k : Nat) (x : Ex) (r : List TokD), facN n ts = .ok (x, r) ∧ p = agg (exV k x) ∧ loc = [prow b r en qs]) (fun ch loc => ∃ e, facN n ts = .error e ∧ wrongP en e ch loc) := by
 have hnm := isName13_any b ts en qs
 rw [h0] at hnm
 have htb := Zc3 b ts en qs wBonus
 rw [h1] at htb
 rw [if_pos rfl] at htb
 have hres : facN n ts = .ok (.mk 3 [] 0 0 [], ts.tail) := by
   have hf : facN n ts = bnd (want wBonus) (fun _ => ret (.mk 3 [] 0 0 [])) ts := by
     cases n
     · show factorB false _ ts = _
       unfold factorB; rw [if_neg (by rw [h0]; simp), if_pos h1]
     · show factorB true _ ts = _
       unfold factorB; rw [if_neg (by rw [h0]; simp), if_pos h1]
   exact hf.trans (Zal (want_yes h1))
 rw [hres]
 replace hres : (Except.ok (.mk 3 [] 0 0 [], ts.tail) : Res Ex) = .ok (.mk 3 [] 0 0 [], ts.tail) := rfl
 refine Zc0 Tryz.func227 rfl Tryz.ntmps227 rfl fun w0 F0 out => ?_
 (repeat' (first | refine Za7 ?_ | refine Za1 ?_ | refine Za3 ?_ | (apply Za8; (first | exact Za2 rfl | exact Za5 rfl | (apply Za9; exact Zbm (k := 1) rfl rfl rfl) | (apply Zam; exact Zad rfl rfl rfl)); exact rfl) | refine Zak ?_ | refine Zb2 ?_ | refine Zaw rfl ?_ | refine Zb0 rfl ?_ | (apply Zac; exact rfl; first | (apply Zaf; first | (refine Zab (.one 1 rfl .nil) Tryz.func183 rfl hnm rfl ?_; rintro _ _ ⟨rfl, rfl⟩) | (refine Zab (.one 0 rfl .nil) Tryz.func155 rfl htb rfl ?_; rintro _ _ ⟨rfl, rfl⟩)) | (apply Zbs; refine Zbh ?_; intro _) | (apply Zaz; refine Zao (k := 1) (l0 := []) rfl rfl rfl ?_))))
 all_goals (try (exfalso; first | contradiction | omega))
 exact ⟨.inr rfl, retw (ret1 rfl (.cella (k := 1) rfl rfl rfl rfl inferInstance rfl) (by exact .cons_cons _ (List.nil_sublist _)) ⟨rfl, rfl⟩) (Ims.agg (leafI _ _ _ _)) ⟨1, _, _, hres.symm, rfl, rfl⟩⟩
set_option maxHeartbeats 8000000 in
set_option maxRecDepth 100000 in
theorem factor_malus (n : Nat) (hn : n ≤ 16) (b : Nat) (ts : List TokD) (en : Nat) (qs : List SP) (_hts : ts.length ≤ 70000) (h0 : Sx.isName ts = false) (h1 : isT wBonus ts = false) (h2 : isT wMalus ts = true) : FnP Tryz.prog 227 [ex (.pointer (some ⟨b, 0, none⟩)), exI .i64 ((16 - n : Nat) : Int)] [prow b ts en qs] (fun p loc => ∃ (k : Nat) (x : Ex) (r : List TokD), facN n ts = .ok (x, r) ∧ p = agg (exV k x) ∧ loc = [prow b r en qs]) (fun ch loc => ∃ e, facN n ts = .error e ∧ wrongP en e ch loc) := by
 have hnm := isName13_any b ts en qs
 rw [h0] at hnm
 have htb := Zc3 b ts en qs wBonus
 rw [h1] at htb
 rw [if_neg (by simp)] at htb
 have htm := Zc3 b ts en qs wMalus
 rw [h2] at htm
 rw [if_pos rfl] at htm
 have hres : facN n ts = .ok (.mk 4 [] 0 0 [], ts.tail) := by
   have hf : facN n ts = bnd (want wMalus) (fun _ => ret (.mk 4 [] 0 0 [])) ts := by
     cases n
     · show factorB false _ ts = _
       unfold factorB; rw [if_neg (by rw [h0]; simp), if_neg (by rw [h1]; simp), if_pos h2]
     · show factorB true _ ts = _
       unfold factorB; rw [if_neg (by rw [h0]; simp), if_neg (by rw [h1]; simp), if_pos h2]
   exact hf.trans (Zal (want_yes h2))
 rw [hres]
 replace hres : (Except.ok (.mk 4 [] 0 0 [], ts.tail) : Res Ex) = .ok (.mk 4 [] 0 0 [], ts.tail) := rfl
 refine Zc0 Tryz.func227 rfl Tryz.ntmps227 rfl fun w0 F0 out => ?_
 (repeat' (first | refine Za7 ?_ | refine Za1 ?_ | refine Za3 ?_ | (apply Za8; (first | exact Za2 rfl | exact Za5 rfl | (apply Za9; exact Zbm (k := 1) rfl rfl rfl) | (apply Zam; exact Zad rfl rfl rfl)); exact rfl) | refine Zak ?_ | refine Zb2 ?_ | refine Zaw rfl ?_ | refine Zb0 rfl ?_ | (apply Zac; exact rfl; first | (apply Zaf; first | (refine Zab (.one 1 rfl .nil) Tryz.func183 rfl hnm rfl ?_; rintro _ _ ⟨rfl, rfl⟩) | (refine Zab (.one 0 rfl .nil) Tryz.func155 rfl htb rfl ?_; rintro _ _ ⟨rfl, rfl⟩) | (refine Zab (.one 0 rfl .nil) Tryz.func155 rfl htm rfl ?_; rintro _ _ ⟨rfl, rfl⟩)) | (apply Zbs; refine Zbh ?_; intro _) | (apply Zaz; refine Zao (k := 1) (l0 := []) rfl rfl rfl ?_))))
 all_goals (try (exfalso; first | contradiction | omega))
 exact ⟨.inr rfl, retw (ret1 rfl (.cella (k := 1) rfl rfl rfl rfl inferInstance rfl) (by exact .cons_cons _ (List.nil_sublist _)) ⟨rfl, rfl⟩) (Ims.agg (leafI _ _ _ _)) ⟨1, _, _, hres.symm, rfl, rfl⟩⟩
set_option maxHeartbeats 8000000 in
set_option maxRecDepth 100000 in
theorem factor_round (n : Nat) (hn : n ≤ 16) (b : Nat) (ts : List TokD) (en : Nat) (qs : List SP) (_hts : ts.length ≤ 70000) (h0 : Sx.isName ts = false) (h1 : isT wBonus ts = false) (h2 : isT wMalus ts = false) (h3 : isT wRound ts = true) : FnP Tryz.prog 227 [ex (.pointer (some ⟨b, 0, none⟩)), exI .i64 ((16 - n : Nat) : Int)] [prow b ts en qs] (fun p loc => ∃ (k : Nat) (x : Ex) (r : List TokD), facN n ts = .ok (x, r) ∧ p = agg (exV k x) ∧ loc = [prow b r en qs]) (fun ch loc => ∃ e, facN n ts = .error e ∧ wrongP en e ch loc) := by
 have hnm := isName13_any b ts en qs
 rw [h0] at hnm
 have htb := Zc3 b ts en qs wBonus
 rw [h1] at htb
 rw [if_neg (by simp)] at htb
 have htm := Zc3 b ts en qs wMalus
 rw [h2] at htm
 rw [if_neg (by simp)] at htm
 have hir := Zc8 b ts en qs wRound
 rw [h3] at hir
 have hf : facN n ts = bnd (named wRound) (fun nm => ret (.mk 5 nm 0 0 [])) ts := by
   cases n
   · show factorB false _ ts = _
     unfold factorB; rw [if_neg (by rw [h0]; simp), if_neg (by rw [h1]; simp), if_neg (by rw [h2]; simp), if_pos h3]
   · show factorB true _ ts = _
     unfold factorB; rw [if_neg (by rw [h0]; simp), if_neg (by rw [h1]; simp), if_neg (by rw [h2]; simp), if_pos h3]
 rw [hf]
 generalize hres : bnd (named wRound) (fun nm => ret (Ex.mk 5 nm 0 0 [])) ts = res
 have k1 := name13_any b ts en qs wRound
 refine Zc0 Tryz.func227 rfl Tryz.ntmps227 rfl fun w0 F0 out => ?_
 (repeat' (first | (apply Zaq 51; refine Zb7 (.one 0 rfl .nil) Tryz.func145 rfl k1 rfl ?_ ?_) | refine Za7 ?_ | refine Za1 ?_ | refine Za3 ?_ | (apply Za8; (first | exact Za2 rfl | exact Za5 rfl); exact rfl) | refine Zak ?_ | refine Zaw rfl ?_ | refine Zb0 rfl ?_ | (apply Zac; exact rfl; first | (apply Zaf; first | (refine Zab (.one 1 rfl .nil) Tryz.func183 rfl hnm rfl ?_; rintro _ _ ⟨rfl, rfl⟩) | (refine Zab (.one 0 rfl .nil) Tryz.func155 rfl htb rfl ?_; rintro _ _ ⟨rfl, rfl⟩) | (refine Zab (.one 0 rfl .nil) Tryz.func155 rfl htm rfl ?_; rintro _ _ ⟨rfl, rfl⟩) | (refine Zab (.one 0 rfl .nil) Tryz.func184 rfl hir rfl ?_; rintro _ _ ⟨rfl, rfl⟩)) | (apply Zbs; refine Zbh ?_; intro _))))
 all_goals (try (exfalso; first | contradiction | omega))
 rotate_left
 · rintro ch loc ⟨e, g1, rfl, rfl⟩; ((repeat (first | (with_reducible refine Zbd ?_) | (with_reducible refine Zbn ?_))); refine Zar (loc' := []) (List.nil_sublist _) ?_); exact ⟨e, hres.symm.trans (Zap g1), rfl, rfl⟩
 rintro _ loc ⟨nm, t1, g1, rfl, rfl⟩
 rw [Zal g1] at hres
 (repeat' (first | refine Za7 ?_ | refine Za1 ?_ | refine Za3 ?_ | (apply Za8; (first | (apply Za9; exact Zbm (k := 1) rfl rfl rfl) | (apply Zam; exact Zad rfl rfl rfl)); exact rfl) | refine Zb2 ?_ | (apply Zac; exact rfl; (apply Zaz; refine Zao (k := 1) (l0 := []) rfl rfl rfl ?_))))
 exact ⟨.inr rfl, retw (ret1 rfl (.cella (k := 1) rfl rfl rfl rfl inferInstance rfl) (by exact .cons_cons _ (List.nil_sublist _)) ⟨rfl, rfl⟩) (Ims.agg (leafI _ _ _ _)) ⟨1, _, _, hres.symm, rfl, rfl⟩⟩
end Go.Proofs.YthdldeenpgeemaaGreatDoor
namespace Go.Proofs.YthdldeenpgeemaaGreatDoor
open Go Go.RowKit Go.Kx Go.Fr Go.Lx Go.Sx
set_option maxHeartbeats 8000000 in
set_option maxRecDepth 100000 in
theorem factor_least0 (b : Nat) (ts : List TokD) (en : Nat) (qs : List SP) (_hts : ts.length ≤ 70000) (h0 : Sx.isName ts = false) (h1 : isT wBonus ts = false) (h2 : isT wMalus ts = false) (h3 : isT wRound ts = false) (h4 : isT wLeast ts = true) : FnP Tryz.prog 227 [ex (.pointer (some ⟨b, 0, none⟩)), exI .i64 16] [prow b ts en qs] (fun p loc => ∃ (k : Nat) (x : Ex) (r : List TokD), facN 0 ts = .ok (x, r) ∧ p = agg (exV k x) ∧ loc = [prow b r en qs]) (fun ch loc => ∃ e, facN 0 ts = .error e ∧ wrongP en e ch loc) := by
 have hnm := isName13_any b ts en qs
 rw [h0] at hnm
 have htb := Zc3 b ts en qs wBonus
 rw [h1] at htb
 rw [if_neg (by simp)] at htb
 have htm := Zc3 b ts en qs wMalus
 rw [h2] at htm
 rw [if_neg (by simp)] at htm
 have hir := Zc8 b ts en qs wRound
 rw [h3] at hir
 have hil := Zc8 b ts en qs wLeast
 rw [h4] at hil
 have hf : facN 0 ts = .error ts := by
   show factorB false _ ts = _
   unfold factorB; rw [if_neg (by rw [h0]; simp), if_neg (by rw [h1]; simp), if_neg (by rw [h2]; simp), if_neg (by rw [h3]; simp), if_pos h4]; rfl
 have k1 := deeper13_no b ts en qs
 refine Zc0 Tryz.func227 rfl Tryz.ntmps227 rfl fun w0 F0 out => ?_
 (repeat' (first | (apply Zaq 61; refine Zb7 (.one 0 rfl .nil) Tryz.func228 rfl k1 rfl ?_ ?_) | refine Za7 ?_ | refine Za1 ?_ | refine Za3 ?_ | (apply Za8; (first | exact Za2 rfl | exact Za5 rfl); exact rfl) | refine Zak ?_ | refine Zan ?_ | refine Zaw rfl ?_ | refine Zb0 rfl ?_ | (apply Zac; exact rfl; first | (apply Zaf; first | (refine Zab (.one 1 rfl .nil) Tryz.func183 rfl hnm rfl ?_; rintro _ _ ⟨rfl, rfl⟩) | (refine Zab (.one 0 rfl .nil) Tryz.func155 rfl htb rfl ?_; rintro _ _ ⟨rfl, rfl⟩) | (refine Zab (.one 0 rfl .nil) Tryz.func155 rfl htm rfl ?_; rintro _ _ ⟨rfl, rfl⟩) | (refine Zab (.one 0 rfl .nil) Tryz.func184 rfl hir rfl ?_; rintro _ _ ⟨rfl, rfl⟩) | (refine Zab (.one 0 rfl .nil) Tryz.func184 rfl hil rfl ?_; rintro _ _ ⟨rfl, rfl⟩)) | (apply Zbs; refine Zbh ?_; intro _))))
 all_goals (try (exfalso; first | contradiction | omega))
 · rintro _ _ h; exact h.elim
 · rintro ch loc ⟨rfl, rfl⟩; ((repeat (first | (with_reducible refine Zbd ?_) | (with_reducible refine Zbn ?_))); refine Zar (loc' := []) (List.nil_sublist _) ?_); exact ⟨ts, hf, rfl, rfl⟩
set_option maxHeartbeats 8000000 in
set_option maxRecDepth 100000 in
theorem factor_least1 (n : Nat) (hn : n + 1 ≤ 16) (b : Nat) (ts : List TokD) (en : Nat) (qs : List SP) (hts : ts.length ≤ 70000) (h0 : Sx.isName ts = false) (h1 : isT wBonus ts = false) (h2 : isT wMalus ts = false) (h3 : isT wRound ts = false) (h4 : isT wLeast ts = true) (hx : ExprC 189 exprN n) : FnP Tryz.prog 227 [ex (.pointer (some ⟨b, 0, none⟩)), exI .i64 ((16 - (n + 1) : Nat) : Int)] [prow b ts en qs] (fun p loc => ∃ (k : Nat) (x : Ex) (r : List TokD), facN (n + 1) ts = .ok (x, r) ∧ p = agg (exV k x) ∧ loc = [prow b r en qs]) (fun ch loc => ∃ e, facN (n + 1) ts = .error e ∧ wrongP en e ch loc) := by
 have hnm := isName13_any b ts en qs
 rw [h0] at hnm
 have htb := Zc3 b ts en qs wBonus
 rw [h1] at htb
 rw [if_neg (by simp)] at htb
 have htm := Zc3 b ts en qs wMalus
 rw [h2] at htm
 rw [if_neg (by simp)] at htm
 have hir := Zc8 b ts en qs wRound
 rw [h3] at hir
 have hil := Zc8 b ts en qs wLeast
 rw [h4] at hil
 have hf : facN (n + 1) ts = pairP (exprN n) 9 ts.tail := by
   show factorB true _ ts = _
   unfold factorB; rw [if_neg (by rw [h0]; simp), if_neg (by rw [h1]; simp), if_neg (by rw [h2]; simp), if_neg (by rw [h3]; simp), if_pos h4]
   exact Zal (want_yes h4)
 rw [hf]
 generalize hres : pairP (exprN n) 9 ts.tail = res
 unfold pairP at hres
 have htl : ts.tail.length ≤ ts.length := by rw [List.length_tail]; omega
 have k1 := deeper13_yes b ts en qs n hn
 have g0 : oneP [wLeast, wGreatest] 0 ts = .ok (1, ts.tail) := by rw [oneP, if_pos h4]
 have k2 := one13_any b ts en qs [wLeast, wGreatest] (by decide)
 rw [g0] at k2
 have k3 := Zcs b ts.tail en qs sOpen
 refine Zc0 Tryz.func227 rfl Tryz.ntmps227 rfl fun w0 F0 out => ?_
 (repeat' (first | (apply Zaq 65; refine Zbp (k := 0) (E := eStr) (t := 64) [wLeast, wGreatest] rfl rfl rfl rfl ?_ (hc := by decide) (hby := by decide); refine Zbp (k := 0) (E := eI) (t := 62) [9, 10] rfl rfl rfl rfl ?_ (hc := by decide) (hby := by decide); refine Zb7 (.one 0 rfl .nil) Tryz.func185 rfl k2 rfl ?_ ?_) | refine Za7 ?_ | refine Za1 ?_ | refine Za3 ?_ | (apply Za8; (first | exact Za2 rfl | exact Za5 rfl); exact rfl) | refine Zak ?_ | refine Zan ?_ | refine Zaw rfl ?_ | refine Zb0 rfl ?_ | (apply Zac; exact rfl; first | (apply Zaf; first | (refine Zab (.one 1 rfl .nil) Tryz.func183 rfl hnm rfl ?_; rintro _ _ ⟨rfl, rfl⟩) | (refine Zab (.one 0 rfl .nil) Tryz.func155 rfl htb rfl ?_; rintro _ _ ⟨rfl, rfl⟩) | (refine Zab (.one 0 rfl .nil) Tryz.func155 rfl htm rfl ?_; rintro _ _ ⟨rfl, rfl⟩) | (refine Zab (.one 0 rfl .nil) Tryz.func184 rfl hir rfl ?_; rintro _ _ ⟨rfl, rfl⟩) | (refine Zab (.one 0 rfl .nil) Tryz.func184 rfl hil rfl ?_; rintro _ _ ⟨rfl, rfl⟩) | (refine Zab (.one 0 rfl .nil) Tryz.func228 rfl k1 rfl ?_; rintro _ _ ⟨rfl, rfl⟩)) | (apply Zbs; refine Zbh ?_; intro _) | (apply Zb6; (refine Zbx rfl (by repeat (first | exact PartsO.nil | (apply PartsO.cons; exact rfl; exact inferInstance; exact rfl; exact rfl))) ?_); intro _))))
 all_goals (try (exfalso; first | contradiction | omega))
 rotate_left
 · rintro ch loc ⟨e, g1, _⟩; cases g1
 rintro _ loc ⟨i, t1, g1, rfl, rfl⟩
 injection g1 with g1; injection g1 with g1 g2; subst g1 g2
 rename_i b4 _ _
 (repeat' (first | (apply Zaq 71; refine Zb7 (.one 0 rfl .nil) Tryz.func146 rfl k3 rfl ?_ ?_) | refine Za7 ?_ | refine Za1 ?_ | refine Za3 ?_ | (apply Za8; (first | exact Za2 rfl | (apply Za9; exact Zau rfl rfl) | (apply Zam; exact Zad rfl rfl rfl) | (apply Zai; exact WT_sub rfl rfl) | (apply Zb3; exact WT_indexz rfl rfl rfl)); exact rfl) | (apply Zac; exact rfl; (apply Zaz; refine Zao (k := 1) (l0 := []) rfl rfl rfl ?_))))
 rotate_left
 · rintro ch loc ⟨e, g1, rfl, rfl⟩; ((repeat (first | (with_reducible refine Zbd ?_) | (with_reducible refine Zbn ?_))); refine Zar (loc' := []) (List.nil_sublist _) ?_); exact ⟨e, hres.symm.trans (Zap g1), rfl, rfl⟩
 rintro _ loc ⟨t1, g1, rfl⟩
 have hl1 := (Zbb (Q := TT) (tt_w sOpen)).len g1
 rw [Zal g1] at hres
 have k4 := hx b t1 en qs (by omega)
 (repeat' (first | (apply Zcj 20; refine Stop.out ?_) | refine Za7 ?_ | refine Za3 ?_))
 refine ⟨?_⟩
 refine WP_pan (K := wrongK en res) (fun ch env loc ⟨e, h1, h2⟩ => ?_) ?_
 · ((repeat (first | (with_reducible refine Zbd ?_) | (with_reducible refine Zbn ?_))); refine Zar (loc' := []) (List.nil_sublist _) ?_)
   exact ⟨e, h1, h2, rfl⟩
 refine Zbc (env' := [(0, ex (.pointer (some ⟨b, 0, none⟩))), (1, exI .i64 ((16 - n : Nat) : Int)), (4, ex (.pointer (some ⟨b4, 0, none⟩)))]) (loc' := [prow b t1 en qs, row b4 52 5 [exI .i64 9, exT [], exI .i64 0, exI .i64 0, ex (.slice none 0 0)]]) (Zaa (by repeat (first | exact Zaj | refine Zae rfl ?_)) (List.Sublist.refl _)) ?_
 (refine Zdb ([row b4 52 5 [exI .i64 9, exT [], exI .i64 0, exI .i64 0, ex (.slice none 0 0)]]) 8 rfl ?_)
 all_goals ((apply Zc7 0 rfl (by decide +kernel) rfl Zcl Za0; (first | (apply Zam; first | exact Zad rfl rfl rfl)); exact rfl))
 all_goals ((apply WPY_takeE 1 rfl (by decide +kernel) rfl (by decide +kernel) Zcl Za0; (first | (apply Za9; first | exact Zah (k := 1) rfl rfl rfl rfl)); exact rfl))
 all_goals ((apply Zc7 2 rfl (by decide +kernel) rfl Zcl Za0; (first | exact Za2 rfl); exact rfl))
 all_goals ((apply Zc7 3 rfl (by decide +kernel) rfl Zcl Za0; (first | exact Za2 rfl); exact rfl))
 all_goals ((apply WPY_oneP 4; exact (by decide +kernel); exact rfl; exact Za0; exact (fun _ _ h => h); (refine WOP_callPH (.one 0 rfl .nil) Tryz.func189 rfl k4 (by exact .cons_cons _ (List.nil_sublist _)) rfl ?_ ?_; rotate_left; (rintro ch loc ⟨e, g2, rfl, rfl⟩; exact ⟨e, hres.symm.trans (Zap g2), rfl⟩); rintro _ loc ⟨kx, x, t2, g2, rfl, rfl⟩; rw [Zal g2] at hres)))
 all_goals (first | (apply Zbe 5; exact (by decide +kernel); exact rfl; exact Za0; exact (fun _ _ h => h); first | (apply Zb6; (first | refine Zbf rfl rfl ?_); intro _)))
 all_goals ((apply Zbe 6; exact (by decide +kernel); exact rfl; exact Za0; exact (fun _ _ h => h); (apply Zd9; ((refine WO_append_nil (hH := (by repeat (first | exact List.nil_sublist _ | apply List.Sublist.cons_cons | apply List.Sublist.cons))) rfl (by exact Src_rowW (k := 0) rfl rfl) rfl ?_)); intro _)))
 all_goals ((apply Zc7 7 rfl (by decide +kernel) rfl Zcl Za0; (first | (apply Zam; first | exact Zad rfl rfl rfl)); exact rfl))
 all_goals ((apply Zbe 8; exact (by decide +kernel); exact rfl; exact Za0; exact (fun h => absurd h (by decide)); (apply Zaz; refine WO_vsl (H := feet []) (k := 0) rfl ?_; intro _ _ hv; subst hv; refine Zao (k := 3) (hH := (by repeat (exact List.nil_sublist _))) rfl rfl rfl ?_)))
 all_goals (refine Zbu (by decide +kernel) ?_)
 rename_i b77 oa c
 have hl2 := (lw_exprT n).len g2
 have k5 := Zcs b t2 en qs sComma
 (repeat' (first | (apply Zaq 81; refine Zb7 (.one 2 rfl .nil) Tryz.func146 rfl k5 rfl ?_ ?_) | refine Za7 ?_ | refine Za1 ?_ | (apply Za8; (exact Za2 rfl); exact rfl)))
 rotate_left
 · rintro ch loc ⟨e, g3, rfl, rfl⟩; ((repeat (first | (with_reducible refine Zbd ?_) | (with_reducible refine Zbn ?_))); refine Zar (loc' := []) (List.nil_sublist _) ?_); exact ⟨e, hres.symm.trans (Zap g3), rfl, rfl⟩
 rintro _ loc ⟨t3, g3, rfl⟩
 have hl3 := (Zbb (Q := TT) (tt_w sComma)).len g3
 rw [Zal g3] at hres
 have k6 := hx b t3 en qs (by omega)
 (repeat' (first | (apply Zcj 22; refine Stop.out ?_) | refine Za7 ?_ | refine Za3 ?_))
 refine ⟨?_⟩
 refine WP_pan (K := wrongK en res) (fun ch env loc ⟨e, h1, h2⟩ => ?_) ?_
 · ((repeat (first | (with_reducible refine Zbd ?_) | (with_reducible refine Zbn ?_))); refine Zar (loc' := []) (List.nil_sublist _) ?_)
   exact ⟨e, h1, h2, rfl⟩
 refine Zbc (env' := [(0, ex (.pointer (some ⟨b, 0, none⟩))), (1, exI .i64 ((16 - n : Nat) : Int)), (4, ex (.pointer (some ⟨b4, 0, none⟩)))]) (loc' := [prow b t3 en qs, vec (.slice oa 1 c) 52 5 1 (exV kx x), row b4 52 5 [exI .i64 9, exT [], exI .i64 0, exI .i64 0, ex (.slice oa 1 c)]]) (Zaa (by repeat (first | exact Zaj | refine Zae rfl ?_)) (by exact .cons_cons _ (.cons_cons _ (.cons _ (.refl _))))) ?_
 (refine Zdb ([row b4 52 5 [exI .i64 9, exT [], exI .i64 0, exI .i64 0, ex (.slice oa 1 c)]]) 8 rfl ?_)
 all_goals ((apply Zc7 0 rfl (by decide +kernel) rfl Zcl Za0; (first | (apply Zam; first | exact Zad rfl rfl rfl)); exact rfl))
 all_goals ((apply WPY_takeE 1 rfl (by decide +kernel) rfl (by decide +kernel) Zcl Za0; (first | (apply Za9; first | exact Zah (k := 2) rfl rfl rfl rfl)); exact rfl))
 all_goals ((apply Zc7 2 rfl (by decide +kernel) rfl Zcl Za0; (first | exact Za2 rfl); exact rfl))
 all_goals ((apply Zc7 3 rfl (by decide +kernel) rfl Zcl Za0; (first | exact Za2 rfl); exact rfl))
 all_goals ((apply WPY_oneP 4; exact (by decide +kernel); exact rfl; exact Za0; exact (fun _ _ h => h); (refine WOP_callPH (.one 0 rfl .nil) Tryz.func189 rfl k6 (by exact .cons _ (.cons_cons _ (List.nil_sublist _))) rfl ?_ ?_; rotate_left; (rintro ch loc ⟨e, g4, rfl, rfl⟩; exact ⟨e, hres.symm.trans (Zap g4), rfl⟩); rintro _ loc ⟨ky, y, t4, g4, rfl, rfl⟩; rw [Zal g4] at hres)))
 all_goals (first | (apply Zbe 5; exact (by decide +kernel); exact rfl; exact Za0; exact (fun _ _ h => h); first | (apply Zb6; (first | refine Zbf rfl rfl ?_); intro _)))
 all_goals ((apply Zbe 6; exact (by decide +kernel); exact rfl; exact Za0; exact (fun _ _ h => h); (apply Zd9; ((refine Zd4 (k := 2) (hH := (by repeat (first | exact List.nil_sublist _ | apply List.Sublist.cons_cons | apply List.Sublist.cons))) rfl rfl (by exact Src_rowW (k := 0) rfl rfl) rfl ?_)); intro _)))
 all_goals ((apply Zc7 7 rfl (by decide +kernel) rfl Zcl Za0; (first | (apply Zam; first | exact Zad rfl rfl rfl)); exact rfl))
 all_goals ((apply Zbe 8; exact (by decide +kernel); exact rfl; exact Za0; exact (fun h => absurd h (by decide)); (apply Zaz; refine WO_vsl (H := feet []) (k := 2) rfl ?_; intro _ _ hv; subst hv; refine Zao (k := 3) (hH := (by repeat (exact List.nil_sublist _))) rfl rfl rfl ?_)))
 all_goals (refine Zbu (by decide +kernel) ?_)
 rename_i b87 oa2 c2
 have k7 := Zcs b t4 en qs sClose
 (repeat' (first | (apply Zaq 91; refine Zb7 (.one 1 rfl .nil) Tryz.func146 rfl k7 rfl ?_ ?_) | refine Za1 ?_ | (apply Za8; (first | exact Za2 rfl); exact rfl)))
 rotate_left
 · rintro ch loc ⟨e, g5, rfl, rfl⟩; ((repeat (first | (with_reducible refine Zbd ?_) | (with_reducible refine Zbn ?_))); refine Zar (loc' := []) (List.nil_sublist _) ?_); exact ⟨e, hres.symm.trans (Zap g5), rfl, rfl⟩
 rintro _ loc ⟨t5, g5, rfl⟩
 rw [Zal g5] at hres
 (repeat' (first | (apply Zci 34; refine Stop.out ?_) | refine Za3 ?_))
 refine ⟨Zbc (Leads.trans (Leads_vec_im (k := 2) (ps := exV kx x ++ exV ky y) rfl (ims_app (exV_le (Nat.le_max_left kx ky) x) (exV_le (Nat.le_max_right kx ky) y))) (Leads_fcell (j := 2) (k := 2) (i := 4) (E := eEx (max kx ky)) [x, y] rfl rfl rfl rfl rfl rfl (hby := by show 2 * 64 ≤ _; decide))) ?_⟩
 (repeat' (first | refine Za7 ?_ | refine Za1 ?_ | refine Za3 ?_ | (apply Za8; ((apply Za9; exact Zbm (k := 2) rfl rfl rfl)); exact rfl) | refine Zb2 ?_ | (apply Zac; exact rfl; (apply Zaz; refine Zao (k := 2) (l0 := []) rfl rfl rfl ?_))))
 exact ⟨.inr rfl, ret1 rfl (.cella (k := 2) rfl rfl rfl rfl inferInstance rfl) (by exact .cons_cons _ (List.nil_sublist _)) ⟨max kx ky + 1, _, _, hres.symm, rfl, rfl⟩⟩
set_option maxHeartbeats 8000000 in
set_option maxRecDepth 100000 in
theorem factor_greatest0 (b : Nat) (ts : List TokD) (en : Nat) (qs : List SP) (_hts : ts.length ≤ 70000) (h0 : Sx.isName ts = false) (h1 : isT wBonus ts = false) (h2 : isT wMalus ts = false) (h3 : isT wRound ts = false) (h4 : isT wLeast ts = false) (h5 : isT wGreatest ts = true) : FnP Tryz.prog 227 [ex (.pointer (some ⟨b, 0, none⟩)), exI .i64 16] [prow b ts en qs] (fun p loc => ∃ (k : Nat) (x : Ex) (r : List TokD), facN 0 ts = .ok (x, r) ∧ p = agg (exV k x) ∧ loc = [prow b r en qs]) (fun ch loc => ∃ e, facN 0 ts = .error e ∧ wrongP en e ch loc) := by
 have hnm := isName13_any b ts en qs
 rw [h0] at hnm
 have htb := Zc3 b ts en qs wBonus
 rw [h1] at htb
 rw [if_neg (by simp)] at htb
 have htm := Zc3 b ts en qs wMalus
 rw [h2] at htm
 rw [if_neg (by simp)] at htm
 have hir := Zc8 b ts en qs wRound
 rw [h3] at hir
 have hil := Zc8 b ts en qs wLeast
 rw [h4] at hil
 have hig := Zc8 b ts en qs wGreatest
 rw [h5] at hig
 have hf : facN 0 ts = .error ts := by
   show factorB false _ ts = _
   unfold factorB; rw [if_neg (by rw [h0]; simp), if_neg (by rw [h1]; simp), if_neg (by rw [h2]; simp), if_neg (by rw [h3]; simp), if_neg (by rw [h4]; simp), if_pos h5]; rfl
 have k1 := deeper13_no b ts en qs
 refine Zc0 Tryz.func227 rfl Tryz.ntmps227 rfl fun w0 F0 out => ?_
 (repeat' (first | (apply Zaq 61; refine Zb7 (.one 0 rfl .nil) Tryz.func228 rfl k1 rfl ?_ ?_) | refine Za7 ?_ | refine Za1 ?_ | refine Za3 ?_ | (apply Za8; (first | exact Za2 rfl | exact Za5 rfl); exact rfl) | refine Zak ?_ | refine Zaw rfl ?_ | refine Zb0 rfl ?_ | (apply Zac; exact rfl; first | (apply Zaf; first | (refine Zab (.one 1 rfl .nil) Tryz.func183 rfl hnm rfl ?_; rintro _ _ ⟨rfl, rfl⟩) | (refine Zab (.one 0 rfl .nil) Tryz.func155 rfl htb rfl ?_; rintro _ _ ⟨rfl, rfl⟩) | (refine Zab (.one 0 rfl .nil) Tryz.func155 rfl htm rfl ?_; rintro _ _ ⟨rfl, rfl⟩) | (refine Zab (.one 0 rfl .nil) Tryz.func184 rfl hir rfl ?_; rintro _ _ ⟨rfl, rfl⟩) | (refine Zab (.one 0 rfl .nil) Tryz.func184 rfl hil rfl ?_; rintro _ _ ⟨rfl, rfl⟩) | (refine Zab (.one 0 rfl .nil) Tryz.func184 rfl hig rfl ?_; rintro _ _ ⟨rfl, rfl⟩)) | (apply Zbs; refine Zbh ?_; intro _))))
 all_goals (try (exfalso; first | contradiction | omega))
 · rintro _ _ h; exact h.elim
 · rintro ch loc ⟨rfl, rfl⟩; ((repeat (first | (with_reducible refine Zbd ?_) | (with_reducible refine Zbn ?_))); refine Zar (loc' := []) (List.nil_sublist _) ?_); exact ⟨ts, hf, rfl, rfl⟩
set_option maxHeartbeats 8000000 in
set_option maxRecDepth 100000 in
theorem factor_greatest1 (n : Nat) (hn : n + 1 ≤ 16) (b : Nat) (ts : List TokD) (en : Nat) (qs : List SP) (hts : ts.length ≤ 70000) (h0 : Sx.isName ts = false) (h1 : isT wBonus ts = false) (h2 : isT wMalus ts = false) (h3 : isT wRound ts = false) (h4 : isT wLeast ts = false) (h5 : isT wGreatest ts = true) (hx : ExprC 189 exprN n) : FnP Tryz.prog 227 [ex (.pointer (some ⟨b, 0, none⟩)), exI .i64 ((16 - (n + 1) : Nat) : Int)] [prow b ts en qs] (fun p loc => ∃ (k : Nat) (x : Ex) (r : List TokD), facN (n + 1) ts = .ok (x, r) ∧ p = agg (exV k x) ∧ loc = [prow b r en qs]) (fun ch loc => ∃ e, facN (n + 1) ts = .error e ∧ wrongP en e ch loc) := by
 have hnm := isName13_any b ts en qs
 rw [h0] at hnm
 have htb := Zc3 b ts en qs wBonus
 rw [h1] at htb
 rw [if_neg (by simp)] at htb
 have htm := Zc3 b ts en qs wMalus
 rw [h2] at htm
 rw [if_neg (by simp)] at htm
 have hir := Zc8 b ts en qs wRound
 rw [h3] at hir
 have hil := Zc8 b ts en qs wLeast
 rw [h4] at hil
 have hig := Zc8 b ts en qs wGreatest
 rw [h5] at hig
 have hf : facN (n + 1) ts = pairP (exprN n) 10 ts.tail := by
   show factorB true _ ts = _
   unfold factorB; rw [if_neg (by rw [h0]; simp), if_neg (by rw [h1]; simp), if_neg (by rw [h2]; simp), if_neg (by rw [h3]; simp), if_neg (by rw [h4]; simp), if_pos h5]
   exact Zal (want_yes h5)
 rw [hf]
 generalize hres : pairP (exprN n) 10 ts.tail = res
 unfold pairP at hres
 have htl : ts.tail.length ≤ ts.length := by rw [List.length_tail]; omega
 have k1 := deeper13_yes b ts en qs n hn
 have g0 : oneP [wLeast, wGreatest] 0 ts = .ok (2, ts.tail) := by rw [oneP, if_neg (by rw [h4]; simp), oneP, if_pos h5]
 have k2 := one13_any b ts en qs [wLeast, wGreatest] (by decide)
 rw [g0] at k2
 have k3 := Zcs b ts.tail en qs sOpen
 refine Zc0 Tryz.func227 rfl Tryz.ntmps227 rfl fun w0 F0 out => ?_
 (repeat' (first | (apply Zaq 65; refine Zbp (k := 0) (E := eStr) (t := 64) [wLeast, wGreatest] rfl rfl rfl rfl ?_ (hc := by decide) (hby := by decide); refine Zbp (k := 0) (E := eI) (t := 62) [9, 10] rfl rfl rfl rfl ?_ (hc := by decide) (hby := by decide); refine Zb7 (.one 0 rfl .nil) Tryz.func185 rfl k2 rfl ?_ ?_) | refine Za7 ?_ | refine Za1 ?_ | refine Za3 ?_ | (apply Za8; (first | exact Za2 rfl | exact Za5 rfl); exact rfl) | refine Zak ?_ | refine Zaw rfl ?_ | refine Zb0 rfl ?_ | (apply Zac; exact rfl; first | (apply Zaf; first | (refine Zab (.one 1 rfl .nil) Tryz.func183 rfl hnm rfl ?_; rintro _ _ ⟨rfl, rfl⟩) | (refine Zab (.one 0 rfl .nil) Tryz.func155 rfl htb rfl ?_; rintro _ _ ⟨rfl, rfl⟩) | (refine Zab (.one 0 rfl .nil) Tryz.func155 rfl htm rfl ?_; rintro _ _ ⟨rfl, rfl⟩) | (refine Zab (.one 0 rfl .nil) Tryz.func184 rfl hir rfl ?_; rintro _ _ ⟨rfl, rfl⟩) | (refine Zab (.one 0 rfl .nil) Tryz.func184 rfl hil rfl ?_; rintro _ _ ⟨rfl, rfl⟩) | (refine Zab (.one 0 rfl .nil) Tryz.func184 rfl hig rfl ?_; rintro _ _ ⟨rfl, rfl⟩) | (refine Zab (.one 0 rfl .nil) Tryz.func228 rfl k1 rfl ?_; rintro _ _ ⟨rfl, rfl⟩)) | (apply Zbs; refine Zbh ?_; intro _) | (apply Zb6; (refine Zbx rfl (by repeat (first | exact PartsO.nil | (apply PartsO.cons; exact rfl; exact inferInstance; exact rfl; exact rfl))) ?_); intro _))))
 all_goals (try (exfalso; first | contradiction | omega))
 rotate_left
 · rintro ch loc ⟨e, g1, _⟩; cases g1
 rintro _ loc ⟨i, t1, g1, rfl, rfl⟩
 injection g1 with g1; injection g1 with g1 g2; subst g1 g2
 rename_i b4 _ _
 (repeat' (first | (apply Zaq 71; refine Zb7 (.one 0 rfl .nil) Tryz.func146 rfl k3 rfl ?_ ?_) | refine Za7 ?_ | refine Za1 ?_ | refine Za3 ?_ | (apply Za8; (first | exact Za2 rfl | (apply Za9; exact Zau rfl rfl) | (apply Zam; exact Zad rfl rfl rfl) | (apply Zai; exact WT_sub rfl rfl) | (apply Zb3; exact WT_indexz rfl rfl rfl)); exact rfl) | (apply Zac; exact rfl; (apply Zaz; refine Zao (k := 1) (l0 := []) rfl rfl rfl ?_))))
 rotate_left
 · rintro ch loc ⟨e, g1, rfl, rfl⟩; ((repeat (first | (with_reducible refine Zbd ?_) | (with_reducible refine Zbn ?_))); refine Zar (loc' := []) (List.nil_sublist _) ?_); exact ⟨e, hres.symm.trans (Zap g1), rfl, rfl⟩
 rintro _ loc ⟨t1, g1, rfl⟩
 have hl1 := (Zbb (Q := TT) (tt_w sOpen)).len g1
 rw [Zal g1] at hres
 have k4 := hx b t1 en qs (by omega)
 (repeat' (first | (apply Zcj 20; refine Stop.out ?_) | refine Za7 ?_ | refine Za3 ?_))
 refine ⟨?_⟩
 refine WP_pan (K := wrongK en res) (fun ch env loc ⟨e, h1, h2⟩ => ?_) ?_
 · ((repeat (first | (with_reducible refine Zbd ?_) | (with_reducible refine Zbn ?_))); refine Zar (loc' := []) (List.nil_sublist _) ?_)
   exact ⟨e, h1, h2, rfl⟩
 refine Zbc (env' := [(0, ex (.pointer (some ⟨b, 0, none⟩))), (1, exI .i64 ((16 - n : Nat) : Int)), (4, ex (.pointer (some ⟨b4, 0, none⟩)))]) (loc' := [prow b t1 en qs, row b4 52 5 [exI .i64 10, exT [], exI .i64 0, exI .i64 0, ex (.slice none 0 0)]]) (Zaa (by repeat (first | exact Zaj | refine Zae rfl ?_)) (List.Sublist.refl _)) ?_
 (refine Zdb ([row b4 52 5 [exI .i64 10, exT [], exI .i64 0, exI .i64 0, ex (.slice none 0 0)]]) 8 rfl ?_)
 all_goals ((apply Zc7 0 rfl (by decide +kernel) rfl Zcl Za0; (first | (apply Zam; first | exact Zad rfl rfl rfl)); exact rfl))
 all_goals ((apply WPY_takeE 1 rfl (by decide +kernel) rfl (by decide +kernel) Zcl Za0; (first | (apply Za9; first | exact Zah (k := 1) rfl rfl rfl rfl)); exact rfl))
 all_goals ((apply Zc7 2 rfl (by decide +kernel) rfl Zcl Za0; (first | exact Za2 rfl); exact rfl))
 all_goals ((apply Zc7 3 rfl (by decide +kernel) rfl Zcl Za0; (first | exact Za2 rfl); exact rfl))
 all_goals ((apply WPY_oneP 4; exact (by decide +kernel); exact rfl; exact Za0; exact (fun _ _ h => h); (refine WOP_callPH (.one 0 rfl .nil) Tryz.func189 rfl k4 (by exact .cons_cons _ (List.nil_sublist _)) rfl ?_ ?_; rotate_left; (rintro ch loc ⟨e, g2, rfl, rfl⟩; exact ⟨e, hres.symm.trans (Zap g2), rfl⟩); rintro _ loc ⟨kx, x, t2, g2, rfl, rfl⟩; rw [Zal g2] at hres)))
 all_goals (first | (apply Zbe 5; exact (by decide +kernel); exact rfl; exact Za0; exact (fun _ _ h => h); first | (apply Zb6; (first | refine Zbf rfl rfl ?_); intro _)))
 all_goals ((apply Zbe 6; exact (by decide +kernel); exact rfl; exact Za0; exact (fun _ _ h => h); (apply Zd9; ((refine WO_append_nil (hH := (by repeat (first | exact List.nil_sublist _ | apply List.Sublist.cons_cons | apply List.Sublist.cons))) rfl (by exact Src_rowW (k := 0) rfl rfl) rfl ?_)); intro _)))
 all_goals ((apply Zc7 7 rfl (by decide +kernel) rfl Zcl Za0; (first | (apply Zam; first | exact Zad rfl rfl rfl)); exact rfl))
 all_goals ((apply Zbe 8; exact (by decide +kernel); exact rfl; exact Za0; exact (fun h => absurd h (by decide)); (apply Zaz; refine WO_vsl (H := feet []) (k := 0) rfl ?_; intro _ _ hv; subst hv; refine Zao (k := 3) (hH := (by repeat (exact List.nil_sublist _))) rfl rfl rfl ?_)))
 all_goals (refine Zbu (by decide +kernel) ?_)
 rename_i b77 oa c
 have hl2 := (lw_exprT n).len g2
 have k5 := Zcs b t2 en qs sComma
 (repeat' (first | (apply Zaq 81; refine Zb7 (.one 2 rfl .nil) Tryz.func146 rfl k5 rfl ?_ ?_) | refine Za7 ?_ | refine Za1 ?_ | (apply Za8; (exact Za2 rfl); exact rfl)))
 rotate_left
 · rintro ch loc ⟨e, g3, rfl, rfl⟩; ((repeat (first | (with_reducible refine Zbd ?_) | (with_reducible refine Zbn ?_))); refine Zar (loc' := []) (List.nil_sublist _) ?_); exact ⟨e, hres.symm.trans (Zap g3), rfl, rfl⟩
 rintro _ loc ⟨t3, g3, rfl⟩
 have hl3 := (Zbb (Q := TT) (tt_w sComma)).len g3
 rw [Zal g3] at hres
 have k6 := hx b t3 en qs (by omega)
 (repeat' (first | (apply Zcj 22; refine Stop.out ?_) | refine Za7 ?_ | refine Za3 ?_))
 refine ⟨?_⟩
 refine WP_pan (K := wrongK en res) (fun ch env loc ⟨e, h1, h2⟩ => ?_) ?_
 · ((repeat (first | (with_reducible refine Zbd ?_) | (with_reducible refine Zbn ?_))); refine Zar (loc' := []) (List.nil_sublist _) ?_)
   exact ⟨e, h1, h2, rfl⟩
 refine Zbc (env' := [(0, ex (.pointer (some ⟨b, 0, none⟩))), (1, exI .i64 ((16 - n : Nat) : Int)), (4, ex (.pointer (some ⟨b4, 0, none⟩)))]) (loc' := [prow b t3 en qs, vec (.slice oa 1 c) 52 5 1 (exV kx x), row b4 52 5 [exI .i64 10, exT [], exI .i64 0, exI .i64 0, ex (.slice oa 1 c)]]) (Zaa (by repeat (first | exact Zaj | refine Zae rfl ?_)) (by exact .cons_cons _ (.cons_cons _ (.cons _ (.refl _))))) ?_
 (refine Zdb ([row b4 52 5 [exI .i64 10, exT [], exI .i64 0, exI .i64 0, ex (.slice oa 1 c)]]) 8 rfl ?_)
 all_goals ((apply Zc7 0 rfl (by decide +kernel) rfl Zcl Za0; (first | (apply Zam; first | exact Zad rfl rfl rfl)); exact rfl))
 all_goals ((apply WPY_takeE 1 rfl (by decide +kernel) rfl (by decide +kernel) Zcl Za0; (first | (apply Za9; first | exact Zah (k := 2) rfl rfl rfl rfl)); exact rfl))
 all_goals ((apply Zc7 2 rfl (by decide +kernel) rfl Zcl Za0; (first | exact Za2 rfl); exact rfl))
 all_goals ((apply Zc7 3 rfl (by decide +kernel) rfl Zcl Za0; (first | exact Za2 rfl); exact rfl))
 all_goals ((apply WPY_oneP 4; exact (by decide +kernel); exact rfl; exact Za0; exact (fun _ _ h => h); (refine WOP_callPH (.one 0 rfl .nil) Tryz.func189 rfl k6 (by exact .cons _ (.cons_cons _ (List.nil_sublist _))) rfl ?_ ?_; rotate_left; (rintro ch loc ⟨e, g4, rfl, rfl⟩; exact ⟨e, hres.symm.trans (Zap g4), rfl⟩); rintro _ loc ⟨ky, y, t4, g4, rfl, rfl⟩; rw [Zal g4] at hres)))
 all_goals (first | (apply Zbe 5; exact (by decide +kernel); exact rfl; exact Za0; exact (fun _ _ h => h); first | (apply Zb6; (first | refine Zbf rfl rfl ?_); intro _)))
 all_goals ((apply Zbe 6; exact (by decide +kernel); exact rfl; exact Za0; exact (fun _ _ h => h); (apply Zd9; ((refine Zd4 (k := 2) (hH := (by repeat (first | exact List.nil_sublist _ | apply List.Sublist.cons_cons | apply List.Sublist.cons))) rfl rfl (by exact Src_rowW (k := 0) rfl rfl) rfl ?_)); intro _)))
 all_goals ((apply Zc7 7 rfl (by decide +kernel) rfl Zcl Za0; (first | (apply Zam; first | exact Zad rfl rfl rfl)); exact rfl))
 all_goals ((apply Zbe 8; exact (by decide +kernel); exact rfl; exact Za0; exact (fun h => absurd h (by decide)); (apply Zaz; refine WO_vsl (H := feet []) (k := 2) rfl ?_; intro _ _ hv; subst hv; refine Zao (k := 3) (hH := (by repeat (exact List.nil_sublist _))) rfl rfl rfl ?_)))
 all_goals (refine Zbu (by decide +kernel) ?_)
 rename_i b87 oa2 c2
 have k7 := Zcs b t4 en qs sClose
 (repeat' (first | (apply Zaq 91; refine Zb7 (.one 1 rfl .nil) Tryz.func146 rfl k7 rfl ?_ ?_) | refine Za1 ?_ | (apply Za8; (first | exact Za2 rfl); exact rfl)))
 rotate_left
 · rintro ch loc ⟨e, g5, rfl, rfl⟩; ((repeat (first | (with_reducible refine Zbd ?_) | (with_reducible refine Zbn ?_))); refine Zar (loc' := []) (List.nil_sublist _) ?_); exact ⟨e, hres.symm.trans (Zap g5), rfl, rfl⟩
 rintro _ loc ⟨t5, g5, rfl⟩
 rw [Zal g5] at hres
 (repeat' (first | (apply Zci 34; refine Stop.out ?_) | refine Za3 ?_))
 refine ⟨Zbc (Leads.trans (Leads_vec_im (k := 2) (ps := exV kx x ++ exV ky y) rfl (ims_app (exV_le (Nat.le_max_left kx ky) x) (exV_le (Nat.le_max_right kx ky) y))) (Leads_fcell (j := 2) (k := 2) (i := 4) (E := eEx (max kx ky)) [x, y] rfl rfl rfl rfl rfl rfl (hby := by show 2 * 64 ≤ _; decide))) ?_⟩
 (repeat' (first | refine Za7 ?_ | refine Za1 ?_ | refine Za3 ?_ | (apply Za8; ((apply Za9; exact Zbm (k := 2) rfl rfl rfl)); exact rfl) | refine Zb2 ?_ | (apply Zac; exact rfl; (apply Zaz; refine Zao (k := 2) (l0 := []) rfl rfl rfl ?_))))
 exact ⟨.inr rfl, ret1 rfl (.cella (k := 2) rfl rfl rfl rfl inferInstance rfl) (by exact .cons_cons _ (List.nil_sublist _)) ⟨max kx ky + 1, _, _, hres.symm, rfl, rfl⟩⟩
set_option maxHeartbeats 8000000 in
set_option maxRecDepth 100000 in
theorem factor_paren0 (b : Nat) (ts : List TokD) (en : Nat) (qs : List SP) (_hts : ts.length ≤ 70000) (h0 : Sx.isName ts = false) (h1 : isT wBonus ts = false) (h2 : isT wMalus ts = false) (h3 : isT wRound ts = false) (h4 : isT wLeast ts = false) (h5 : isT wGreatest ts = false) (h6 : isT wIf ts = false) (h7 : isT sOpen ts = true) : FnP Tryz.prog 227 [ex (.pointer (some ⟨b, 0, none⟩)), exI .i64 16] [prow b ts en qs] (fun p loc => ∃ (k : Nat) (x : Ex) (r : List TokD), facN 0 ts = .ok (x, r) ∧ p = agg (exV k x) ∧ loc = [prow b r en qs]) (fun ch loc => ∃ e, facN 0 ts = .error e ∧ wrongP en e ch loc) := by
 have hnm := isName13_any b ts en qs
 rw [h0] at hnm
 have htb := Zc3 b ts en qs wBonus
 rw [h1] at htb
 rw [if_neg (by simp)] at htb
 have htm := Zc3 b ts en qs wMalus
 rw [h2] at htm
 rw [if_neg (by simp)] at htm
 have hir := Zc8 b ts en qs wRound
 rw [h3] at hir
 have hil := Zc8 b ts en qs wLeast
 rw [h4] at hil
 have hig := Zc8 b ts en qs wGreatest
 rw [h5] at hig
 have hii := Zc8 b ts en qs wIf
 rw [h6] at hii
 have hio := Zc8 b ts en qs sOpen
 rw [h7] at hio
 have hf : facN 0 ts = .error ts := by
   show factorB false _ ts = _
   unfold factorB; rw [if_neg (by rw [h0]; simp), if_neg (by rw [h1]; simp), if_neg (by rw [h2]; simp), if_neg (by rw [h3]; simp), if_neg (by rw [h4]; simp), if_neg (by rw [h5]; simp), if_neg (by rw [h6]; simp), if_pos h7]; rfl
 have k1 := deeper13_no b ts en qs
 refine Zc0 Tryz.func227 rfl Tryz.ntmps227 rfl fun w0 F0 out => ?_
 (repeat' (first | (apply Zaq 11; refine Zb7 (.one 0 rfl .nil) Tryz.func228 rfl k1 rfl ?_ ?_) | refine Za7 ?_ | refine Za1 ?_ | refine Za3 ?_ | (apply Za8; (first | exact Za2 rfl | exact Za5 rfl); exact rfl) | refine Zak ?_ | refine Zaw rfl ?_ | refine Zb0 rfl ?_ | (apply Zac; exact rfl; first | (apply Zaf; first | (refine Zab (.one 1 rfl .nil) Tryz.func183 rfl hnm rfl ?_; rintro _ _ ⟨rfl, rfl⟩) | (refine Zab (.one 0 rfl .nil) Tryz.func155 rfl htb rfl ?_; rintro _ _ ⟨rfl, rfl⟩) | (refine Zab (.one 0 rfl .nil) Tryz.func155 rfl htm rfl ?_; rintro _ _ ⟨rfl, rfl⟩) | (refine Zab (.one 0 rfl .nil) Tryz.func184 rfl hir rfl ?_; rintro _ _ ⟨rfl, rfl⟩) | (refine Zab (.one 0 rfl .nil) Tryz.func184 rfl hil rfl ?_; rintro _ _ ⟨rfl, rfl⟩) | (refine Zab (.one 0 rfl .nil) Tryz.func184 rfl hig rfl ?_; rintro _ _ ⟨rfl, rfl⟩) | (refine Zab (.one 0 rfl .nil) Tryz.func184 rfl hii rfl ?_; rintro _ _ ⟨rfl, rfl⟩) | (refine Zab (.one 0 rfl .nil) Tryz.func184 rfl hio rfl ?_; rintro _ _ ⟨rfl, rfl⟩)) | (apply Zbs; refine Zbh ?_; intro _))))
 all_goals (try (exfalso; first | contradiction | omega))
 · rintro _ _ h; exact h.elim
 · rintro ch loc ⟨rfl, rfl⟩; ((repeat (first | (with_reducible refine Zbd ?_) | (with_reducible refine Zbn ?_))); refine Zar (loc' := []) (List.nil_sublist _) ?_); exact ⟨ts, hf, rfl, rfl⟩
set_option maxHeartbeats 8000000 in
set_option maxRecDepth 100000 in
theorem factor_paren1 (n : Nat) (hn : n + 1 ≤ 16) (b : Nat) (ts : List TokD) (en : Nat) (qs : List SP) (hts : ts.length ≤ 70000) (h0 : Sx.isName ts = false) (h1 : isT wBonus ts = false) (h2 : isT wMalus ts = false) (h3 : isT wRound ts = false) (h4 : isT wLeast ts = false) (h5 : isT wGreatest ts = false) (h6 : isT wIf ts = false) (h7 : isT sOpen ts = true) (hx : ExprC 189 exprN n) : FnP Tryz.prog 227 [ex (.pointer (some ⟨b, 0, none⟩)), exI .i64 ((16 - (n + 1) : Nat) : Int)] [prow b ts en qs] (fun p loc => ∃ (k : Nat) (x : Ex) (r : List TokD), facN (n + 1) ts = .ok (x, r) ∧ p = agg (exV k x) ∧ loc = [prow b r en qs]) (fun ch loc => ∃ e, facN (n + 1) ts = .error e ∧ wrongP en e ch loc) := by
 have hnm := isName13_any b ts en qs
 rw [h0] at hnm
 have htb := Zc3 b ts en qs wBonus
 rw [h1] at htb
 rw [if_neg (by simp)] at htb
 have htm := Zc3 b ts en qs wMalus
 rw [h2] at htm
 rw [if_neg (by simp)] at htm
 have hir := Zc8 b ts en qs wRound
 rw [h3] at hir
 have hil := Zc8 b ts en qs wLeast
 rw [h4] at hil
 have hig := Zc8 b ts en qs wGreatest
 rw [h5] at hig
 have hii := Zc8 b ts en qs wIf
 rw [h6] at hii
 have hio := Zc8 b ts en qs sOpen
 rw [h7] at hio
 have hf : facN (n + 1) ts = bnd (want sOpen) (fun _ => bnd (exprN n) fun x => bnd (want sClose) fun _ => ret x) ts := by
   show factorB true _ ts = _
   unfold factorB; rw [if_neg (by rw [h0]; simp), if_neg (by rw [h1]; simp), if_neg (by rw [h2]; simp), if_neg (by rw [h3]; simp), if_neg (by rw [h4]; simp), if_neg (by rw [h5]; simp), if_neg (by rw [h6]; simp), if_pos h7]; rfl
 rw [hf]
 generalize hres : bnd (want sOpen) (fun _ => bnd (exprN n) fun x => bnd (want sClose) fun _ => ret x) ts = res
 have k1 := deeper13_yes b ts en qs n hn
 have k2 := Zcs b ts en qs sOpen
 refine Zc0 Tryz.func227 rfl Tryz.ntmps227 rfl fun w0 F0 out => ?_
 (repeat' (first | (apply Zaq 13; refine Zb7 (.one 0 rfl .nil) Tryz.func146 rfl k2 rfl ?_ ?_) | refine Za7 ?_ | refine Za1 ?_ | refine Za3 ?_ | (apply Za8; (first | exact Za2 rfl | exact Za5 rfl); exact rfl) | refine Zak ?_ | refine Zaw rfl ?_ | refine Zb0 rfl ?_ | (apply Zac; exact rfl; first | (apply Zaf; first | (refine Zab (.one 1 rfl .nil) Tryz.func183 rfl hnm rfl ?_; rintro _ _ ⟨rfl, rfl⟩) | (refine Zab (.one 0 rfl .nil) Tryz.func155 rfl htb rfl ?_; rintro _ _ ⟨rfl, rfl⟩) | (refine Zab (.one 0 rfl .nil) Tryz.func155 rfl htm rfl ?_; rintro _ _ ⟨rfl, rfl⟩) | (refine Zab (.one 0 rfl .nil) Tryz.func184 rfl hir rfl ?_; rintro _ _ ⟨rfl, rfl⟩) | (refine Zab (.one 0 rfl .nil) Tryz.func184 rfl hil rfl ?_; rintro _ _ ⟨rfl, rfl⟩) | (refine Zab (.one 0 rfl .nil) Tryz.func184 rfl hig rfl ?_; rintro _ _ ⟨rfl, rfl⟩) | (refine Zab (.one 0 rfl .nil) Tryz.func184 rfl hii rfl ?_; rintro _ _ ⟨rfl, rfl⟩) | (refine Zab (.one 0 rfl .nil) Tryz.func184 rfl hio rfl ?_; rintro _ _ ⟨rfl, rfl⟩) | (refine Zab (.one 0 rfl .nil) Tryz.func228 rfl k1 rfl ?_; rintro _ _ ⟨rfl, rfl⟩)) | (apply Zbs; refine Zbh ?_; intro _))))
 all_goals (try (exfalso; first | contradiction | omega))
 rotate_left
 · rintro ch loc ⟨e, g1, rfl, rfl⟩; ((repeat (first | (with_reducible refine Zbd ?_) | (with_reducible refine Zbn ?_))); refine Zar (loc' := []) (List.nil_sublist _) ?_); exact ⟨e, hres.symm.trans (Zap g1), rfl, rfl⟩
 rintro pw loc ⟨t1, g1, rfl⟩
 rename_i b4
 have hl1 := (Zbb (Q := TT) (tt_w sOpen)).len g1
 rw [Zal g1] at hres
 have k4 := hx b t1 en qs (by omega)
 (repeat' (first | (apply Zaq 16; refine Zb7 (.one 0 rfl .nil) Tryz.func189 rfl k4 rfl ?_ ?_) | refine Za7 ?_ | refine Za1 ?_ | refine Za3 ?_ | (apply Za8; (exact Za2 rfl); exact rfl)))
 rotate_left
 · rintro ch loc ⟨e, g2, rfl, rfl⟩; ((repeat (first | (with_reducible refine Zbd ?_) | (with_reducible refine Zbn ?_))); refine Zar (loc' := []) (List.nil_sublist _) ?_); exact ⟨e, hres.symm.trans (Zap g2), rfl, rfl⟩
 rintro _ loc ⟨kx, x, t2, g2, rfl, rfl⟩
 rw [Zal g2] at hres
 have k5 := Zcs b t2 en qs sClose
 (repeat' (first | (apply Zaq 18; refine Zb7 (.one 0 rfl .nil) Tryz.func146 rfl k5 rfl ?_ ?_) | refine Za1 ?_ | refine Za3 ?_ | (apply Za8; (exact Za2 rfl); exact rfl) | (apply Zac; exact rfl; (apply Zaz; refine Zao (k := 1) (l0 := []) rfl rfl rfl ?_))))
 rotate_left
 · rintro ch loc ⟨e, g3, rfl, rfl⟩; ((repeat (first | (with_reducible refine Zbd ?_) | (with_reducible refine Zbn ?_))); refine Zar (loc' := []) (List.nil_sublist _) ?_); exact ⟨e, hres.symm.trans (Zap g3), rfl, rfl⟩
 rintro _ loc ⟨t3, g3, rfl⟩
 rw [Zal g3] at hres
 (repeat' (first | (apply Zci 34; refine Stop.out ?_) | refine Za3 ?_))
 refine ⟨Zbc (env' := [(0, ex (.pointer (some ⟨b, 0, none⟩))), (4, ex (.pointer (some ⟨b4, 0, none⟩)))]) (loc' := [prow b t3 en qs, row b4 52 5 (exV kx x)]) (Zaa (by repeat (first | exact Zaj | refine Zae rfl ?_)) (List.Sublist.refl _)) ?_⟩
 (repeat' (first | refine Za7 ?_ | refine Za1 ?_ | refine Za3 ?_ | (apply Za8; ((apply Za9; exact Zbm (k := 1) rfl rfl rfl)); exact rfl) | refine Zb2 ?_ | (apply Zac; exact rfl; (apply Zaz; refine Zao (k := 1) (l0 := []) rfl rfl rfl ?_))))
 exact ⟨.inr rfl, ret1 rfl (.cella (k := 1) rfl rfl rfl rfl inferInstance rfl) (by exact .cons_cons _ (List.nil_sublist _)) ⟨kx, _, _, hres.symm, rfl, rfl⟩⟩
set_option maxHeartbeats 8000000 in
set_option maxRecDepth 100000 in
theorem factor_bad (n : Nat) (hn : n ≤ 16) (b : Nat) (ts : List TokD) (en : Nat) (qs : List SP) (_hts : ts.length ≤ 70000) (h0 : Sx.isName ts = false) (h1 : isT wBonus ts = false) (h2 : isT wMalus ts = false) (h3 : isT wRound ts = false) (h4 : isT wLeast ts = false) (h5 : isT wGreatest ts = false) (h6 : isT wIf ts = false) (h7 : isT sOpen ts = false) : FnP Tryz.prog 227 [ex (.pointer (some ⟨b, 0, none⟩)), exI .i64 ((16 - n : Nat) : Int)] [prow b ts en qs] (fun p loc => ∃ (k : Nat) (x : Ex) (r : List TokD), facN n ts = .ok (x, r) ∧ p = agg (exV k x) ∧ loc = [prow b r en qs]) (fun ch loc => ∃ e, facN n ts = .error e ∧ wrongP en e ch loc) := by
 have hnm := isName13_any b ts en qs
 rw [h0] at hnm
 have htb := Zc3 b ts en qs wBonus
 rw [h1] at htb
 rw [if_neg (by simp)] at htb
 have htm := Zc3 b ts en qs wMalus
 rw [h2] at htm
 rw [if_neg (by simp)] at htm
 have hir := Zc8 b ts en qs wRound
 rw [h3] at hir
 have hil := Zc8 b ts en qs wLeast
 rw [h4] at hil
 have hig := Zc8 b ts en qs wGreatest
 rw [h5] at hig
 have hii := Zc8 b ts en qs wIf
 rw [h6] at hii
 have hio := Zc8 b ts en qs sOpen
 rw [h7] at hio
 have hf : facN n ts = .error ts := by
   cases n
   · show factorB false _ ts = _
     unfold factorB; rw [if_neg (by rw [h0]; simp), if_neg (by rw [h1]; simp), if_neg (by rw [h2]; simp), if_neg (by rw [h3]; simp), if_neg (by rw [h4]; simp), if_neg (by rw [h5]; simp), if_neg (by rw [h6]; simp), if_neg (by rw [h7]; simp)]
   · show factorB true _ ts = _
     unfold factorB; rw [if_neg (by rw [h0]; simp), if_neg (by rw [h1]; simp), if_neg (by rw [h2]; simp), if_neg (by rw [h3]; simp), if_neg (by rw [h4]; simp), if_neg (by rw [h5]; simp), if_neg (by rw [h6]; simp), if_neg (by rw [h7]; simp)]
 have k2 := Zcs b ts en qs sOpen
 refine Zc0 Tryz.func227 rfl Tryz.ntmps227 rfl fun w0 F0 out => ?_
 (repeat' (first | (apply Zaq 13; refine Zb7 (.one 0 rfl .nil) Tryz.func146 rfl k2 rfl ?_ ?_) | refine Za7 ?_ | refine Za1 ?_ | refine Za3 ?_ | (apply Za8; (first | exact Za2 rfl | exact Za5 rfl); exact rfl) | refine Zak ?_ | refine Zan ?_ | refine Zb0 rfl ?_ | (apply Zac; exact rfl; first | (apply Zaf; first | (refine Zab (.one 1 rfl .nil) Tryz.func183 rfl hnm rfl ?_; rintro _ _ ⟨rfl, rfl⟩) | (refine Zab (.one 0 rfl .nil) Tryz.func155 rfl htb rfl ?_; rintro _ _ ⟨rfl, rfl⟩) | (refine Zab (.one 0 rfl .nil) Tryz.func155 rfl htm rfl ?_; rintro _ _ ⟨rfl, rfl⟩) | (refine Zab (.one 0 rfl .nil) Tryz.func184 rfl hir rfl ?_; rintro _ _ ⟨rfl, rfl⟩) | (refine Zab (.one 0 rfl .nil) Tryz.func184 rfl hil rfl ?_; rintro _ _ ⟨rfl, rfl⟩) | (refine Zab (.one 0 rfl .nil) Tryz.func184 rfl hig rfl ?_; rintro _ _ ⟨rfl, rfl⟩) | (refine Zab (.one 0 rfl .nil) Tryz.func184 rfl hii rfl ?_; rintro _ _ ⟨rfl, rfl⟩) | (refine Zab (.one 0 rfl .nil) Tryz.func184 rfl hio rfl ?_; rintro _ _ ⟨rfl, rfl⟩)) | (apply Zbs; refine Zbh ?_; intro _))))
 all_goals (try (exfalso; first | contradiction | omega))
 rotate_left
 · rintro ch loc ⟨e, g1, rfl, rfl⟩; ((repeat (first | (with_reducible refine Zbd ?_) | (with_reducible refine Zbn ?_))); refine Zar (loc' := []) (List.nil_sublist _) ?_)
   rw [want_no h7] at g1; injection g1 with g1; subst g1
   exact ⟨_, hf, rfl, rfl⟩
 rintro _ loc ⟨t1, g1, rfl⟩
 rw [want_no h7] at g1; cases g1
end Go.Proofs.YthdldeenpgeemaaGreatDoor
namespace Go.Sx
open Go.Lx Go.Fr
def ifF (ex : List TokD → Res Ex) : List (List UInt8) → List Ex → List TokD → Res Ex
 | [], acc => bnd (want wEnd) fun _ => ret (.mk 11 [] 0 0 acc)
 | w :: ws, acc => bnd (want w) fun _ => bnd ex fun y => ifF ex ws (acc ++ [y])
abbrev ifW : List (List UInt8) := [wIf, wUpto, wThen, wElse]
end Go.Sx
namespace Go.Proofs.YthdldeenpgeemaaGreatDoor
open Go Go.RowKit Go.Kx Go.Fr Go.Lx Go.Sx
set_option maxHeartbeats 8000000 in
set_option maxRecDepth 100000 in
theorem factor_if0 (b : Nat) (ts : List TokD) (en : Nat) (qs : List SP) (_hts : ts.length ≤ 70000) (h0 : Sx.isName ts = false) (h1 : isT wBonus ts = false) (h2 : isT wMalus ts = false) (h3 : isT wRound ts = false) (h4 : isT wLeast ts = false) (h5 : isT wGreatest ts = false) (h6 : isT wIf ts = true) : FnP Tryz.prog 227 [ex (.pointer (some ⟨b, 0, none⟩)), exI .i64 16] [prow b ts en qs] (fun p loc => ∃ (k : Nat) (x : Ex) (r : List TokD), facN 0 ts = .ok (x, r) ∧ p = agg (exV k x) ∧ loc = [prow b r en qs]) (fun ch loc => ∃ e, facN 0 ts = .error e ∧ wrongP en e ch loc) := by
 have hnm := isName13_any b ts en qs
 rw [h0] at hnm
 have htb := Zc3 b ts en qs wBonus
 rw [h1] at htb
 rw [if_neg (by simp)] at htb
 have htm := Zc3 b ts en qs wMalus
 rw [h2] at htm
 rw [if_neg (by simp)] at htm
 have hir := Zc8 b ts en qs wRound
 rw [h3] at hir
 have hil := Zc8 b ts en qs wLeast
 rw [h4] at hil
 have hig := Zc8 b ts en qs wGreatest
 rw [h5] at hig
 have hii := Zc8 b ts en qs wIf
 rw [h6] at hii
 have hf : facN 0 ts = .error ts := by
   show factorB false _ ts = _
   unfold factorB; rw [if_neg (by rw [h0]; simp), if_neg (by rw [h1]; simp), if_neg (by rw [h2]; simp), if_neg (by rw [h3]; simp), if_neg (by rw [h4]; simp), if_neg (by rw [h5]; simp), if_pos h6]; rfl
 have k1 := deeper13_no b ts en qs
 refine Zc0 Tryz.func227 rfl Tryz.ntmps227 rfl fun w0 F0 out => ?_
 (repeat' (first | (apply Zaq 97; refine Zb7 (.one 0 rfl .nil) Tryz.func228 rfl k1 rfl ?_ ?_) | refine Za7 ?_ | refine Za1 ?_ | refine Za3 ?_ | (apply Za8; (first | exact Za2 rfl | exact Za5 rfl); exact rfl) | refine Zak ?_ | refine Zaw rfl ?_ | refine Zb0 rfl ?_ | (apply Zac; exact rfl; first | (apply Zaf; first | (refine Zab (.one 1 rfl .nil) Tryz.func183 rfl hnm rfl ?_; rintro _ _ ⟨rfl, rfl⟩) | (refine Zab (.one 0 rfl .nil) Tryz.func155 rfl htb rfl ?_; rintro _ _ ⟨rfl, rfl⟩) | (refine Zab (.one 0 rfl .nil) Tryz.func155 rfl htm rfl ?_; rintro _ _ ⟨rfl, rfl⟩) | (refine Zab (.one 0 rfl .nil) Tryz.func184 rfl hir rfl ?_; rintro _ _ ⟨rfl, rfl⟩) | (refine Zab (.one 0 rfl .nil) Tryz.func184 rfl hil rfl ?_; rintro _ _ ⟨rfl, rfl⟩) | (refine Zab (.one 0 rfl .nil) Tryz.func184 rfl hig rfl ?_; rintro _ _ ⟨rfl, rfl⟩) | (refine Zab (.one 0 rfl .nil) Tryz.func184 rfl hii rfl ?_; rintro _ _ ⟨rfl, rfl⟩)) | (apply Zbs; refine Zbh ?_; intro _))))
 all_goals (try (exfalso; first | contradiction | omega))
 · rintro _ _ h; exact h.elim
 · rintro ch loc ⟨rfl, rfl⟩; ((repeat (first | (with_reducible refine Zbd ?_) | (with_reducible refine Zbn ?_))); refine Zar (loc' := []) (List.nil_sublist _) ?_); exact ⟨ts, hf, rfl, rfl⟩
set_option maxHeartbeats 8000000 in
set_option maxRecDepth 100000 in
theorem factor_if1 (n : Nat) (hn : n + 1 ≤ 16) (b : Nat) (ts : List TokD) (en : Nat) (qs : List SP) (hts : ts.length ≤ 70000) (h0 : Sx.isName ts = false) (h1 : isT wBonus ts = false) (h2 : isT wMalus ts = false) (h3 : isT wRound ts = false) (h4 : isT wLeast ts = false) (h5 : isT wGreatest ts = false) (h6 : isT wIf ts = true) (hx : ExprC 189 exprN n) : FnP Tryz.prog 227 [ex (.pointer (some ⟨b, 0, none⟩)), exI .i64 ((16 - (n + 1) : Nat) : Int)] [prow b ts en qs] (fun p loc => ∃ (k : Nat) (x : Ex) (r : List TokD), facN (n + 1) ts = .ok (x, r) ∧ p = agg (exV k x) ∧ loc = [prow b r en qs]) (fun ch loc => ∃ e, facN (n + 1) ts = .error e ∧ wrongP en e ch loc) := by
 have hnm := isName13_any b ts en qs
 rw [h0] at hnm
 have htb := Zc3 b ts en qs wBonus
 rw [h1] at htb
 rw [if_neg (by simp)] at htb
 have htm := Zc3 b ts en qs wMalus
 rw [h2] at htm
 rw [if_neg (by simp)] at htm
 have hir := Zc8 b ts en qs wRound
 rw [h3] at hir
 have hil := Zc8 b ts en qs wLeast
 rw [h4] at hil
 have hig := Zc8 b ts en qs wGreatest
 rw [h5] at hig
 have hii := Zc8 b ts en qs wIf
 rw [h6] at hii
 have hf : facN (n + 1) ts = ifF (exprN n) ifW [] ts := by
   show factorB true _ ts = _
   unfold factorB; rw [if_neg (by rw [h0]; simp), if_neg (by rw [h1]; simp), if_neg (by rw [h2]; simp), if_neg (by rw [h3]; simp), if_neg (by rw [h4]; simp), if_neg (by rw [h5]; simp), if_pos h6]; rfl
 rw [hf]
 generalize hres : ifF (exprN n) ifW [] ts = res
 have k1 := deeper13_yes b ts en qs n hn
 refine Zc0 Tryz.func227 rfl Tryz.ntmps227 rfl fun w0 F0 out => ?_
 (repeat' (first | (apply Zaq 100; refine Zbp (k := 0) (E := eStr) (t := 99) ifW rfl rfl rfl rfl ?_ (hc := by decide) (hby := by decide)) | refine Za7 ?_ | refine Za1 ?_ | refine Za3 ?_ | (apply Za8; (first | exact Za2 rfl | exact Za5 rfl | (apply Zam; exact Zad rfl rfl rfl) | (apply Zba; exact Zbq rfl rfl)); exact rfl) | refine Zak ?_ | refine Zaw rfl ?_ | refine Zb0 rfl ?_ | (apply Zac; exact rfl; first | (apply Zaf; first | (refine Zab (.one 1 rfl .nil) Tryz.func183 rfl hnm rfl ?_; rintro _ _ ⟨rfl, rfl⟩) | (refine Zab (.one 0 rfl .nil) Tryz.func155 rfl htb rfl ?_; rintro _ _ ⟨rfl, rfl⟩) | (refine Zab (.one 0 rfl .nil) Tryz.func155 rfl htm rfl ?_; rintro _ _ ⟨rfl, rfl⟩) | (refine Zab (.one 0 rfl .nil) Tryz.func184 rfl hir rfl ?_; rintro _ _ ⟨rfl, rfl⟩) | (refine Zab (.one 0 rfl .nil) Tryz.func184 rfl hil rfl ?_; rintro _ _ ⟨rfl, rfl⟩) | (refine Zab (.one 0 rfl .nil) Tryz.func184 rfl hig rfl ?_; rintro _ _ ⟨rfl, rfl⟩) | (refine Zab (.one 0 rfl .nil) Tryz.func184 rfl hii rfl ?_; rintro _ _ ⟨rfl, rfl⟩) | (refine Zab (.one 0 rfl .nil) Tryz.func228 rfl k1 rfl ?_; rintro _ _ ⟨rfl, rfl⟩)) | (apply Zbs; refine Zbh ?_; intro _) | (apply Zaz; refine Zao (k := 1) (l0 := []) rfl rfl rfl ?_) | (apply Zb6; (refine Zbx rfl (by repeat (first | exact PartsO.nil | (apply PartsO.cons; exact rfl; exact inferInstance; exact rfl; exact rfl))) ?_); intro _))))
 all_goals (try (exfalso; first | contradiction | omega))
 rename_i b4 _
 have hl4 : ifW.length = 4 := rfl
 refine Zck (fun x : List Ex × Nat × (Option Addr × Nat) × List TokD => ([(0, ex (.pointer (some ⟨b, 0, none⟩))), (1, exI .i64 ((16 - n : Nat) : Int)), (4, ex (.pointer (some ⟨b4, 0, none⟩))), (99, isl eStr ifW), (100, exI .i64 (ifW.length : Int)), (101, exI .i64 (x.1.length : Int))], [prow b x.2.2.2 en qs, vec (.slice x.2.2.1.1 x.1.length x.2.2.1.2) 52 5 x.1.length (x.1.flatMap (exV x.2.1)), row b4 52 5 [exI .i64 11, exT [], exI .i64 0, exI .i64 0, ex (.slice x.2.2.1.1 x.1.length x.2.2.1.2)]])) (fun x => x.1.length ≤ 4 ∧ ifF (exprN n) (ifW.drop x.1.length) x.1 x.2.2.2 = res ∧ x.2.2.2.length ≤ ts.length) (fun x => 4 - x.1.length) ([], 0, (none, 0), ts) ?_ ⟨Nat.zero_le _, hres, Nat.le_refl _⟩ fun x hx => ?_
 · refine Leads_nilv 52 5 ?_
   refine Leads.trans (Leads_perm (.swap _ _ _)) ?_
   exact Zaa (by repeat (first | exact Zaj | refine Zae rfl ?_)) (List.Sublist.refl _)
 obtain ⟨acc, K, ⟨oa, c⟩, t⟩ := x
 obtain ⟨hlen, hinv, hle⟩ := hx
 simp only at hlen hinv hle ⊢
 clear hres
 have hres := hinv
 clear hinv
 by_cases hlt : acc.length < ifW.length
 · rw [List.drop_eq_getElem_cons hlt, ifF] at hres
   have k2 := Zcs b t en qs ifW[acc.length]
   (repeat' (first | (apply Zaq 107; refine Zb7 (.one 0 rfl .nil) Tryz.func146 rfl k2 rfl ?_ ?_) | refine Za7 ?_ | refine Za1 ?_ | refine Za3 ?_ | (apply Za8; (first | exact Za2 rfl | exact Za5 rfl | (apply Za9; exact Zau rfl rfl) | (apply Zai; exact Zbg rfl rfl) | (apply Zb3; exact Zb1 rfl rfl rfl)); exact rfl) | refine Zak ?_ | refine Zan ?_ | (refine Zag rfl (fun hb => ?_) (fun hb => ?_) <;> (repeat (first | replace hb := Zas hb | replace hb := Zat hb)) <;> (try (exfalso; omega)))))
   all_goals (try (exfalso; first | contradiction | omega))
   rotate_left
   · rintro ch loc ⟨e, g1, rfl, rfl⟩; ((repeat (first | (with_reducible refine Zbd ?_) | (with_reducible refine Zbn ?_))); refine Zar (loc' := []) (List.nil_sublist _) ?_); exact ⟨e, hres.symm.trans (Zap g1), rfl, rfl⟩
   rintro _ loc ⟨t1, g1, rfl⟩
   have hl1 := (Zbb (Q := TT) (tt_w ifW[acc.length])).len g1
   rw [Zal g1] at hres
   have k4 := hx b t1 en qs (by omega)
   (repeat' (first | (apply Zcj 31; refine Stop.out ?_) | refine Za3 ?_))
   refine ⟨?_⟩
   refine WP_pan (K := wrongK en res) (fun ch env loc ⟨e, h1, h2⟩ => ?_) ?_
   · ((repeat (first | (with_reducible refine Zbd ?_) | (with_reducible refine Zbn ?_))); refine Zar (loc' := []) (List.nil_sublist _) ?_)
     exact ⟨e, h1, h2, rfl⟩
   refine Zbc (env' := [(0, ex (.pointer (some ⟨b, 0, none⟩))), (1, exI .i64 ((16 - n : Nat) : Int)), (4, ex (.pointer (some ⟨b4, 0, none⟩))), (99, isl eStr ifW), (100, exI .i64 (ifW.length : Int)), (101, exI .i64 (acc.length : Int))]) (loc' := [prow b t1 en qs, vec (.slice oa acc.length c) 52 5 acc.length (acc.flatMap (exV K)), row b4 52 5 [exI .i64 11, exT [], exI .i64 0, exI .i64 0, ex (.slice oa acc.length c)]]) (Zaa (by repeat (first | exact Zaj | refine Zae rfl ?_)) (List.Sublist.refl _)) ?_
   (refine Zdb ([row b4 52 5 [exI .i64 11, exT [], exI .i64 0, exI .i64 0, ex (.slice oa acc.length c)]]) 8 rfl ?_)
   all_goals ((apply Zc7 0 rfl (by decide +kernel) rfl Zcl Za0; (first | (apply Zam; first | exact Zad rfl rfl rfl)); exact rfl))
   all_goals ((apply WPY_takeE 1 rfl (by decide +kernel) rfl (by decide +kernel) Zcl Za0; (first | (apply Za9; first | exact Zah (k := 2) rfl rfl rfl rfl)); exact rfl))
   all_goals ((apply Zc7 2 rfl (by decide +kernel) rfl Zcl Za0; (first | exact Za2 rfl); exact rfl))
   all_goals ((apply Zc7 3 rfl (by decide +kernel) rfl Zcl Za0; (first | exact Za2 rfl); exact rfl))
   all_goals ((apply WPY_oneP 4; exact (by decide +kernel); exact rfl; exact Za0; exact (fun _ _ h => h); (refine WOP_callPH (.one 0 rfl .nil) Tryz.func189 rfl k4 (by exact .cons _ (.cons_cons _ (List.nil_sublist _))) rfl ?_ ?_; rotate_left; (rintro ch loc ⟨e, g4, rfl, rfl⟩; exact ⟨e, hres.symm.trans (Zap g4), rfl⟩); rintro _ loc ⟨ky, y, t4, g4, rfl, rfl⟩; rw [Zal g4] at hres)))
   all_goals (first | (apply Zbe 5; exact (by decide +kernel); exact rfl; exact Za0; exact (fun _ _ h => h); first | (apply Zb6; (first | refine Zbf rfl rfl ?_); intro _)))
   all_goals ((apply Zbe 6; exact (by decide +kernel); exact rfl; exact Za0; exact (fun _ _ h => h); (apply Zd9; ((refine Zd4 (k := 2) (hH := (by repeat (first | exact List.nil_sublist _ | apply List.Sublist.cons_cons | apply List.Sublist.cons))) rfl rfl (by exact Src_rowW (k := 0) rfl rfl) rfl ?_)); intro _)))
   all_goals ((apply Zc7 7 rfl (by decide +kernel) rfl Zcl Za0; (first | (apply Zam; first | exact Zad rfl rfl rfl)); exact rfl))
   all_goals ((apply Zbe 8; exact (by decide +kernel); exact rfl; exact Za0; exact (fun h => absurd h (by decide)); (apply Zaz; refine WO_vsl (H := feet []) (k := 2) rfl ?_; intro _ _ hv; subst hv; refine Zao (k := 3) (hH := (by repeat (exact List.nil_sublist _))) rfl rfl rfl ?_)))
   all_goals (refine Zbu (by decide +kernel) ?_)
   rename_i b113 oa2 c2
   have hl2 := (lw_exprT n).len g4
   (repeat' (first | refine Za1 ?_ | refine Za3 ?_ | (apply Za8; (first | exact Za2 rfl | (apply Zai; first | exact Zbz rfl rfl)); exact rfl)))
   refine ⟨(acc ++ [y], max K ky, (oa2, c2), t4), ⟨by simp only [List.length_append, List.length_cons, List.length_nil]; omega, by rw [List.length_append]; exact hres, by show t4.length ≤ _; omega⟩, by show 4 - (acc ++ [y]).length < 4 - acc.length; simp only [List.length_append, List.length_cons, List.length_nil]; omega, ?_⟩
   refine Leads.trans (Leads_vec_im (k := 2) (ps := acc.flatMap (exV K) ++ exV ky y) rfl (ims_app (ims_flat (Nat.le_max_left K ky) acc) (exV_le (Nat.le_max_right K ky) y))) ?_
   simp only [List.length_append, List.flatMap_append, List.length_cons, List.length_nil, List.flatMap_cons, List.flatMap_nil, List.append_nil]
   exact Zaa (by repeat (first | exact Zaj | refine Zae rfl ?_)) (by exact .cons _ (.refl _))
 · rw [show acc.length = 4 by omega] at hres
   have hacc4 : acc.length = 4 := by omega
   have hres : bnd (want wEnd) (fun _ => ret (Ex.mk 11 [] 0 0 acc)) t = res := hres
   have k2 := Zcs b t en qs wEnd
   (repeat' (first | (apply Zaq 118; refine Zb7 (.one 0 rfl .nil) Tryz.func146 rfl k2 rfl ?_ ?_) | refine Za7 ?_ | refine Za1 ?_ | refine Za3 ?_ | (apply Za8; (first | exact Za2 rfl | (apply Zai; exact Zbg rfl rfl)); exact rfl) | refine Zcf ?_ | (refine Zag rfl (fun hb => ?_) (fun hb => ?_) <;> (repeat (first | replace hb := Zas hb | replace hb := Zat hb)) <;> (try (exfalso; omega)))))
   all_goals (try (exfalso; first | contradiction | omega))
   rotate_left
   · rintro ch loc ⟨e, g1, rfl, rfl⟩; ((repeat (first | (with_reducible refine Zbd ?_) | (with_reducible refine Zbn ?_))); refine Zar (loc' := []) (List.nil_sublist _) ?_); exact ⟨e, hres.symm.trans (Zap g1), rfl, rfl⟩
   rintro _ loc ⟨t1, g1, rfl⟩
   rw [Zal g1] at hres
   (repeat' (first | (apply Zci 34; refine Stop.out ?_) | refine Za3 ?_))
   refine ⟨Zbc (Leads_fcell (j := 1) (k := 1) (i := 4) (E := eEx K) acc rfl rfl rfl rfl rfl rfl (hby := by show acc.length * 64 ≤ _; omega)) ?_⟩
   (repeat' (first | refine Za7 ?_ | refine Za1 ?_ | refine Za3 ?_ | (apply Za8; ((apply Za9; exact Zbm (k := 1) rfl rfl rfl)); exact rfl) | refine Zb2 ?_ | (apply Zac; exact rfl; (apply Zaz; refine Zao (k := 1) (l0 := []) rfl rfl rfl ?_))))
   exact ⟨.inr rfl, ret1 rfl (.cella (k := 1) rfl rfl rfl rfl inferInstance rfl) (by exact .cons_cons _ (List.nil_sublist _)) ⟨K + 1, _, _, hres.symm, rfl, rfl⟩⟩
theorem factor13_any (n : Nat) (hn : n ≤ 16) (hx : ∀ m, n = m + 1 → ExprC 189 exprN m) : ExprC 227 facN n := by
 intro b ts en qs hts
 cases h0 : Sx.isName ts with
 | true => exact factor_name n hn b ts en qs hts h0
 | false =>
 cases h1 : isT wBonus ts with
 | true => exact factor_bonus n hn b ts en qs hts h0 h1
 | false =>
 cases h2 : isT wMalus ts with
 | true => exact factor_malus n hn b ts en qs hts h0 h1 h2
 | false =>
 cases h3 : isT wRound ts with
 | true => exact factor_round n hn b ts en qs hts h0 h1 h2 h3
 | false =>
 cases h4 : isT wLeast ts with
 | true =>
   cases n with
   | zero => exact factor_least0 b ts en qs hts h0 h1 h2 h3 h4
   | succ m => exact factor_least1 m hn b ts en qs hts h0 h1 h2 h3 h4 (hx m rfl)
 | false =>
 cases h5 : isT wGreatest ts with
 | true =>
   cases n with
   | zero => exact factor_greatest0 b ts en qs hts h0 h1 h2 h3 h4 h5
   | succ m => exact factor_greatest1 m hn b ts en qs hts h0 h1 h2 h3 h4 h5 (hx m rfl)
 | false =>
 cases h6 : isT wIf ts with
 | true =>
   cases n with
   | zero => exact factor_if0 b ts en qs hts h0 h1 h2 h3 h4 h5 h6
   | succ m => exact factor_if1 m hn b ts en qs hts h0 h1 h2 h3 h4 h5 h6 (hx m rfl)
 | false =>
 cases h7 : isT sOpen ts with
 | true =>
   cases n with
   | zero => exact factor_paren0 b ts en qs hts h0 h1 h2 h3 h4 h5 h6 h7
   | succ m => exact factor_paren1 m hn b ts en qs hts h0 h1 h2 h3 h4 h5 h6 h7 (hx m rfl)
 | false => exact factor_bad n hn b ts en qs hts h0 h1 h2 h3 h4 h5 h6 h7
set_option maxHeartbeats 8000000 in
set_option maxRecDepth 100000 in
theorem term13_any (n : Nat) (hn : n ≤ 16) (hf : ExprC 227 facN n) (htm : ∀ m, n = m + 1 → ExprC 212 termN m) : ExprC 212 termN n := by
 intro b ts en qs hts
 have hin := isNumber13_any b ts en qs
 refine Zc0 Tryz.func212 rfl Tryz.ntmps212 rfl fun w0 F0 out => ?_
 generalize hres : termN n ts = res
 cases hN : isNum ts
 · rw [hN] at hin
   have k1 := hf b ts en qs hts
   have hq : termN n ts = facN n ts := by cases n <;> exact if_neg (by rw [hN]; simp)
   rw [hq] at hres
   (repeat' (first | (apply Zaq 11; refine Zb7 (.one 0 rfl .nil) Tryz.func227 rfl k1 rfl ?_ ?_) | refine Za7 ?_ | refine Za1 ?_ | refine Za3 ?_ | (apply Za8; (first | exact Za2 rfl | (apply g_un; exact Zcy rfl)); exact rfl) | refine Zaw rfl ?_ | (apply Zac; exact rfl; first | (apply Zaf; (refine Zab (.one 1 rfl .nil) Tryz.func190 rfl hin rfl ?_; rintro _ _ ⟨rfl, rfl⟩)) | (apply Zbs; refine Zbh ?_; intro _))))
   all_goals (try (exfalso; first | contradiction | omega))
   rotate_left
   · rintro ch loc ⟨e, g1, rfl, rfl⟩; ((repeat (first | (with_reducible refine Zbd ?_) | (with_reducible refine Zbn ?_))); refine Zar (loc' := []) (List.nil_sublist _) ?_); exact ⟨e, hres.symm.trans g1, rfl, rfl⟩
   rintro _ loc ⟨kx, x, t1, g1, rfl, rfl⟩
   (repeat' (first | refine Za3 ?_ | refine Zb2 ?_ | (apply Zac; exact rfl; first | (apply Zaz; first | refine Zao (k := 1) (l0 := []) rfl rfl rfl ?_))))
   exact ⟨.inr rfl, ret1 rfl (.cella (k := 1) rfl rfl rfl rfl inferInstance rfl) (by exact .cons_cons _ (List.nil_sublist _)) ⟨kx, _, _, hres.symm.trans g1, rfl, rfl⟩⟩
 rw [hN] at hin
 have hq0 : termN n ts = bnd fracP (fun q ts => if isT sStar ts then gate (decide (0 < n)) (bnd (want sStar) fun _ => bnd (match n with | 0 => fun ts => .error ts | m + 1 => termN m) fun x => ret (Ex.mk 8 [] q.1 q.2 [x])) ts else ret (Ex.mk 1 [] q.1 q.2 []) ts) ts := by cases n <;> exact if_pos hN
 rw [hq0] at hres
 clear hq0
 cases ts with
 | nil => cases hN
 | cons t0 t1 =>
 have g1 := num_yes hN
 have k1 := bare13_any b (t0 :: t1) en qs
 rw [g1] at k1
 simp only [List.length_cons] at hts
 have htk := Zc3 b t1 en qs sSlash
 cases hS0 : isT sSlash t1
 · rw [hS0, if_neg (by simp)] at htk
   have g2 : fracP (t0 :: t1) = .ok ((t0.n, 1), t1) := by
     unfold fracP; rw [Zal g1, if_neg (by rw [hS0]; simp)]; rfl
   have hq := hres
   rw [Zal g2] at hq
   clear hres
   (repeat' (first | (apply Zaq 13; refine Zb7 (.one 0 rfl .nil) Tryz.func157 rfl k1 rfl ?_ ?_) | refine Za7 ?_ | refine Za1 ?_ | refine Za3 ?_ | (apply Za8; (first | exact Za2 rfl | (apply g_un; exact Zcy rfl)); exact rfl) | refine Zan ?_ | refine Zb0 rfl ?_ | (apply Zac; exact rfl; first | (apply Zaf; (refine Zab (.one 1 rfl .nil) Tryz.func190 rfl hin rfl ?_; rintro _ _ ⟨rfl, rfl⟩)) | (apply Zbs; refine Zbh ?_; intro _))))
   all_goals (try (exfalso; first | contradiction | omega))
   rotate_left
   · rintro ch loc ⟨e, g9, rfl, rfl⟩; cases g9
   rintro _ loc ⟨x0, r0, g9, rfl, rfl⟩
   injection g9 with g9; injection g9 with g9 g8; subst g9 g8
   cases hS : isT sStar t1
   · have his := Zc8 b t1 en qs sStar
     rw [hS] at his
     have hres := hq.symm.trans (if_neg (by rw [hS]; simp))
     (repeat' (first | refine Za7 ?_ | refine Za1 ?_ | refine Za3 ?_ | (apply Za8; (first | exact Za2 rfl | (apply Za9; exact Zbm (k := 1) rfl rfl rfl) | (apply Zcz; exact Zcg rfl rfl (by repeat (first | exact PartsO.nil | (apply PartsO.cons; exact rfl; exact inferInstance; exact rfl; exact rfl))))); exact rfl) | refine Zan ?_ | refine Zb2 ?_ | refine Zb0 rfl ?_ | (apply Zac; exact rfl; first | (apply Zaf; first | (refine Zab (.one 1 rfl .nil) Tryz.func155 rfl htk rfl ?_; rintro _ _ ⟨rfl, rfl⟩) | (refine Zab (.one 0 rfl .nil) Tryz.func184 rfl his rfl ?_; rintro _ _ ⟨rfl, rfl⟩)) | (apply Zbs; refine Zbh ?_; intro _) | (apply Zaz; first | refine Zao (k := 0) (l0 := []) rfl rfl rfl ?_ | refine Zao (k := 2) (l0 := []) rfl rfl rfl ?_))))
     all_goals (try (exfalso; first | contradiction | omega))
     exact ⟨.inr rfl, retw (ret1 rfl (.cella (k := 2) rfl rfl rfl rfl inferInstance rfl) (by exact .cons_cons _ (List.nil_sublist _)) ⟨rfl, rfl⟩) (Ims.agg (leafI _ _ _ _)) ⟨1, _, _, hres, rfl, rfl⟩⟩
   have his := Zc8 b t1 en qs sStar
   rw [hS] at his
   have hq := hq.symm.trans (if_pos hS)
   cases n with
   | zero =>
     have hd := deeper13_no b t1 en qs
     (repeat' (first | (apply Zaq 38; refine Zb7 (.one 0 rfl .nil) Tryz.func228 rfl hd rfl ?_ ?_) | refine Za7 ?_ | refine Za1 ?_ | refine Za3 ?_ | (apply Za8; (first | exact Za2 rfl | (apply Zcz; exact Zcg rfl rfl (by repeat (first | exact PartsO.nil | (apply PartsO.cons; exact rfl; exact inferInstance; exact rfl; exact rfl))))); exact rfl) | refine Zan ?_ | refine Zaw rfl ?_ | refine Zb0 rfl ?_ | (apply Zac; exact rfl; first | (apply Zaf; first | (refine Zab (.one 1 rfl .nil) Tryz.func155 rfl htk rfl ?_; rintro _ _ ⟨rfl, rfl⟩) | (refine Zab (.one 0 rfl .nil) Tryz.func184 rfl his rfl ?_; rintro _ _ ⟨rfl, rfl⟩)) | (apply Zbs; refine Zbh ?_; intro _) | (apply Zaz; refine Zao (k := 0) (l0 := []) rfl rfl rfl ?_))))
     all_goals (try (exfalso; first | contradiction | omega))
     · rintro _ _ h; exact h.elim
     · rintro ch loc ⟨rfl, rfl⟩; ((repeat (first | (with_reducible refine Zbd ?_) | (with_reducible refine Zbn ?_))); refine Zar (loc' := []) (List.nil_sublist _) ?_); exact ⟨_, hq, rfl, rfl⟩
   | succ m =>
     have hd := deeper13_yes b t1 en qs m hn
     have kw := Zcs b t1 en qs sStar
     replace hq : res = bnd (want sStar) (fun _ => bnd (termN m) fun x => ret (Ex.mk 8 [] t0.n 1 [x])) t1 := hq
     (repeat' (first | (apply Zaq 40; refine Zb7 (.one 0 rfl .nil) Tryz.func146 rfl kw rfl ?_ ?_) | refine Za7 ?_ | refine Za1 ?_ | refine Za3 ?_ | (apply Za8; (first | exact Za2 rfl | exact Za5 rfl | (apply Zcz; exact Zcg rfl rfl (by repeat (first | exact PartsO.nil | (apply PartsO.cons; exact rfl; exact inferInstance; exact rfl; exact rfl))))); exact rfl) | refine Zan ?_ | refine Zaw rfl ?_ | refine Zb0 rfl ?_ | (apply Zac; exact rfl; first | (apply Zaf; first | (refine Zab (.one 1 rfl .nil) Tryz.func155 rfl htk rfl ?_; rintro _ _ ⟨rfl, rfl⟩) | (refine Zab (.one 0 rfl .nil) Tryz.func184 rfl his rfl ?_; rintro _ _ ⟨rfl, rfl⟩) | (refine Zab (.one 0 rfl .nil) Tryz.func228 rfl hd rfl ?_; rintro _ _ ⟨rfl, rfl⟩)) | (apply Zbs; refine Zbh ?_; intro _) | (apply Zaz; refine Zao (k := 0) (l0 := []) rfl rfl rfl ?_))))
     all_goals (try (exfalso; first | contradiction | omega))
     rotate_left
     · rintro ch loc ⟨e, g5, rfl, rfl⟩; ((repeat (first | (with_reducible refine Zbd ?_) | (with_reducible refine Zbn ?_))); refine Zar (loc' := []) (List.nil_sublist _) ?_); exact ⟨e, hq.trans (Zap g5), rfl, rfl⟩
     rintro pw loc ⟨t5, g5, rfl⟩
     have hl5 := (Zbb (Q := TT) (tt_w sStar)).len g5
     rw [Zal g5] at hq
     have kt := htm m rfl b t5 en qs (by omega)
     (repeat' (first | (apply Zaq 43; refine Zb7 (.one 0 rfl .nil) Tryz.func212 rfl kt rfl ?_ ?_) | refine Za1 ?_ | refine Za3 ?_ | (apply Za8; (exact Za2 rfl); exact rfl)))
     rotate_left
     · rintro ch loc ⟨e, g6, rfl, rfl⟩; ((repeat (first | (with_reducible refine Zbd ?_) | (with_reducible refine Zbn ?_))); refine Zar (loc' := []) (List.nil_sublist _) ?_); exact ⟨e, hq.trans (Zap g6), rfl, rfl⟩
     rintro _ loc ⟨kx, x, t6, g6, rfl, rfl⟩
     rw [Zal g6] at hq
     (repeat' (first | (apply Zci 12; refine Stop.out ?_) | refine Za3 ?_ | (apply Za8; ((apply Zam; exact Zad rfl rfl rfl)); exact rfl) | (apply Zac; exact rfl; first | (apply Zaz; refine Zao (k := 2) (l0 := []) rfl rfl rfl ?_) | (apply Zb6; (refine Zbf rfl rfl ?_); intro _))))
     rename_i b44
     refine ⟨Zbc (Leads_row_vec (k := 0) (sz := 5) (n := 1) (c := 1) rfl rfl rfl (by decide) (by decide) (Leads_fcell (j := 0) (k := 1) (i := 4) (E := eEx kx) [x] rfl rfl rfl rfl rfl rfl (hby := by show 1 * 64 ≤ _; decide))) ?_⟩
     (repeat' (first | refine Za7 ?_ | refine Za1 ?_ | refine Za3 ?_ | (apply Za8; ((apply Za9; exact Zbm (k := 1) rfl rfl rfl)); exact rfl) | refine Zb2 ?_ | (apply Zac; exact rfl; (apply Zaz; refine Zao (k := 2) (l0 := []) rfl rfl rfl ?_))))
     exact ⟨.inr rfl, ret1 rfl (.cella (k := 2) rfl rfl rfl rfl inferInstance rfl) (by exact .cons_cons _ (List.nil_sublist _)) ⟨kx + 1, _, _, hq, rfl, rfl⟩⟩
 · rw [hS0, if_pos rfl] at htk
   obtain ⟨t2, t3, rfl, -, -⟩ := isT_cons hS0
   simp only [List.length_cons] at hts
   have hin2 := isNumber13_any b t3 en qs
   have g2 : fracP (t0 :: t2 :: t3) = if zeroHere t3 then .error t3 else bnd numP (fun d => ret (t0.n, d)) t3 := by
     unfold fracP; rw [Zal g1, if_pos hS0, Zal (want_yes hS0)]; rfl
   (repeat' (first | (apply Zaq 13; refine Zb7 (.one 0 rfl .nil) Tryz.func157 rfl k1 rfl ?_ ?_) | refine Za7 ?_ | refine Za1 ?_ | refine Za3 ?_ | (apply Za8; (first | exact Za2 rfl | (apply g_un; exact Zcy rfl)); exact rfl) | refine Zan ?_ | refine Zb0 rfl ?_ | (apply Zac; exact rfl; first | (apply Zaf; (refine Zab (.one 1 rfl .nil) Tryz.func190 rfl hin rfl ?_; rintro _ _ ⟨rfl, rfl⟩)) | (apply Zbs; refine Zbh ?_; intro _))))
   all_goals (try (exfalso; first | contradiction | omega))
   rotate_left
   · rintro ch loc ⟨e, g9, rfl, rfl⟩; cases g9
   rintro _ loc ⟨x0, r0, g9, rfl, rfl⟩
   injection g9 with g9; injection g9 with g9 g8; subst g9 g8
   have k3 := bare13_any b t3 en qs
   have kf := fail13_any b t3 en qs
   cases hN3 : isNum t3
   · rw [hN3] at hin2
     have g4 : numP t3 = .error t3 := num_no hN3
     have hz : zeroHere t3 = false := by
       cases t3 with
       | nil => rfl
       | cons u v => rw [isNum_head] at hN3; show (decide (u.kind = 2) && decide (u.n = 0)) = false; rw [hN3]; rfl
     rw [hz, if_neg (by simp), Zap g4] at g2
     rw [Zap g2] at hres
     rw [g4] at k3
     (repeat' (first | (apply Zaq 32; refine Zb7 (.one 0 rfl .nil) Tryz.func157 rfl k3 rfl ?_ ?_) | refine Za7 ?_ | refine Za1 ?_ | refine Za3 ?_ | (apply Za8; (first | exact Za2 rfl | exact Zb8 (b := false) rfl (fun e => by cases e) (fun _ => rfl) | (apply Zcz; exact Zcg rfl rfl (by repeat (first | exact PartsO.nil | (apply PartsO.cons; exact rfl; exact inferInstance; exact rfl; exact rfl))))); exact rfl) | (refine Zco rfl rfl rfl rfl rfl ?_) | refine Zan ?_ | refine Zaw rfl ?_ | refine Zb0 rfl ?_ | (apply Zac; exact rfl; first | (apply Zaf; first | (refine Zab (.one 1 rfl .nil) Tryz.func155 rfl htk rfl ?_; rintro _ _ ⟨rfl, rfl⟩) | (refine Zab (.one 0 rfl .nil) Tryz.func190 rfl hin2 rfl ?_; rintro _ _ ⟨rfl, rfl⟩)) | (apply Zbs; refine Zbh ?_; intro _) | (apply Zaz; refine Zao (k := 0) (l0 := []) rfl rfl rfl ?_))))
     all_goals (try (exfalso; first | contradiction | omega))
     rotate_left
     · rintro ch loc ⟨e, g9, rfl, rfl⟩; injection g9 with g9; subst g9; ((repeat (first | (with_reducible refine Zbd ?_) | (with_reducible refine Zbn ?_))); refine Zar (loc' := []) (List.nil_sublist _) ?_); exact ⟨_, hres.symm, rfl, rfl⟩
     rintro _ loc ⟨x1, r1, g9, _⟩; cases g9
   rw [hN3] at hin2
   cases t3 with
   | nil => cases hN3
   | cons u v =>
   have hlu : (u :: v).length = v.length + 1 := rfl
   have hN3' : u.kind = 2 := of_decide_eq_true hN3
   have g4 := num_yes hN3
   rw [g4] at k3
   by_cases hz0 : (u :: v)[0].n = 0
   · have hz : zeroHere (u :: v) = true := by show (decide (u.kind = 2) && decide (u.n = 0)) = true; rw [decide_eq_true hN3', decide_eq_true (show u.n = 0 from hz0)]; rfl
     rw [if_pos hz] at g2
     rw [Zap g2] at hres
     (repeat' (first | (apply Zaq 30; refine Zb7 (.one 0 rfl .nil) Tryz.func87 rfl kf rfl ?_ ?_) | refine Za7 ?_ | refine Za1 ?_ | refine Za3 ?_ | (apply Za8; (first | exact Za2 rfl | exact Zb8 (b := true) rfl (fun _ => rfl) (fun e => by cases e) | (apply Zcz; exact Zcg rfl rfl (by repeat (first | exact PartsO.nil | (apply PartsO.cons; exact rfl; exact inferInstance; exact rfl; exact rfl))))); exact rfl) | (apply Zcn; exact rfl; exact rfl; exact rfl; (first | exact Za2 rfl | (apply Za9; first | exact Zau rfl rfl | exact Zah (k := 0) rfl rfl rfl rfl) | (apply Zam; first | exact Zad rfl rfl rfl | exact Zax rfl rfl rfl) | (apply Zai; exact Zc4 rfl rfl) | (apply Zb3; exact Zb1 rfl rfl rfl) | (apply Zbi; exact Zb9 rfl)); exact rfl) | refine Zaw rfl ?_ | (apply Zac; exact rfl; first | (apply Zaf; first | (refine Zab (.one 1 rfl .nil) Tryz.func155 rfl htk rfl ?_; rintro _ _ ⟨rfl, rfl⟩) | (refine Zab (.one 0 rfl .nil) Tryz.func190 rfl hin2 rfl ?_; rintro _ _ ⟨rfl, rfl⟩)) | (apply Zbs; refine Zbh ?_; intro _) | (apply Zaz; refine Zao (k := 0) (l0 := []) rfl rfl rfl ?_)) | (refine Zag rfl (fun hb => ?_) (fun hb => ?_) <;> (repeat (first | replace hb := Zas hb | replace hb := Zat hb)) <;> (try (exfalso; contradiction)))))
     all_goals (try (exfalso; first | contradiction | omega))
     · rintro _ _ h; exact h.elim
     · rintro ch loc ⟨rfl, rfl⟩; ((repeat (first | (with_reducible refine Zbd ?_) | (with_reducible refine Zbn ?_))); refine Zar (loc' := []) (List.nil_sublist _) ?_); exact ⟨_, hres.symm, rfl, rfl⟩
   · have hz : zeroHere (u :: v) = false := by show (decide (u.kind = 2) && decide (u.n = 0)) = false; rw [decide_eq_true hN3', decide_eq_false (show ¬ u.n = 0 from hz0)]; rfl
     rw [if_neg (by rw [hz]; simp), Zal g4] at g2
     have hq := hres
     rw [Zal g2] at hq
     clear hres
     (repeat' (first | (apply Zaq 32; refine Zb7 (.one 0 rfl .nil) Tryz.func157 rfl k3 rfl ?_ ?_) | refine Za7 ?_ | refine Za1 ?_ | refine Za3 ?_ | (apply Za8; (first | exact Za2 rfl | exact Zb8 (b := true) rfl (fun _ => rfl) (fun e => by cases e) | (apply Zcz; exact Zcg rfl rfl (by repeat (first | exact PartsO.nil | (apply PartsO.cons; exact rfl; exact inferInstance; exact rfl; exact rfl))))); exact rfl) | (apply Zcn; exact rfl; exact rfl; exact rfl; (first | exact Za2 rfl | (apply Za9; first | exact Zau rfl rfl | exact Zah (k := 0) rfl rfl rfl rfl) | (apply Zam; first | exact Zad rfl rfl rfl | exact Zax rfl rfl rfl) | (apply Zai; exact Zc4 rfl rfl) | (apply Zb3; exact Zb1 rfl rfl rfl) | (apply Zbi; exact Zb9 rfl)); exact rfl) | refine Zan ?_ | refine Zaw rfl ?_ | (apply Zac; exact rfl; first | (apply Zaf; first | (refine Zab (.one 1 rfl .nil) Tryz.func155 rfl htk rfl ?_; rintro _ _ ⟨rfl, rfl⟩) | (refine Zab (.one 0 rfl .nil) Tryz.func190 rfl hin2 rfl ?_; rintro _ _ ⟨rfl, rfl⟩)) | (apply Zbs; refine Zbh ?_; intro _) | (apply Zaz; refine Zao (k := 0) (l0 := []) rfl rfl rfl ?_)) | (refine Zag rfl (fun hb => ?_) (fun hb => ?_) <;> (repeat (first | replace hb := Zas hb | replace hb := Zat hb)) <;> (try (exfalso; contradiction)))))
     all_goals (try (exfalso; first | contradiction | omega))
     rotate_left
     · rintro ch loc ⟨e, g9, rfl, rfl⟩; cases g9
     rintro _ loc ⟨x1, r1, g9, rfl, rfl⟩
     injection g9 with g9; injection g9 with g9 g8; subst g9 g8
     cases hS : isT sStar v
     · have his := Zc8 b v en qs sStar
       rw [hS] at his
       have hres := hq.symm.trans (if_neg (by rw [hS]; simp))
       (repeat' (first | refine Za7 ?_ | refine Za1 ?_ | refine Za3 ?_ | (apply Za8; (first | exact Za2 rfl | (apply Za9; exact Zbm (k := 1) rfl rfl rfl) | (apply Zam; exact Zad rfl rfl rfl)); exact rfl) | refine Zan ?_ | refine Zb2 ?_ | refine Zb0 rfl ?_ | (apply Zac; exact rfl; first | (apply Zaf; (refine Zab (.one 0 rfl .nil) Tryz.func184 rfl his rfl ?_; rintro _ _ ⟨rfl, rfl⟩)) | (apply Zaz; first | refine Zao (k := 1) (l0 := []) rfl rfl rfl ?_ | refine Zao (k := 2) (l0 := []) rfl rfl rfl ?_))))
       all_goals (try (exfalso; first | contradiction | omega))
       exact ⟨.inr rfl, retw (ret1 rfl (.cella (k := 2) rfl rfl rfl rfl inferInstance rfl) (by exact .cons_cons _ (List.nil_sublist _)) ⟨rfl, rfl⟩) (Ims.agg (leafI _ _ _ _)) ⟨1, _, _, hres, rfl, rfl⟩⟩
     have his := Zc8 b v en qs sStar
     rw [hS] at his
     have hq := hq.symm.trans (if_pos hS)
     cases n with
     | zero =>
       have hd := deeper13_no b v en qs
       (repeat' (first | (apply Zaq 38; refine Zb7 (.one 0 rfl .nil) Tryz.func228 rfl hd rfl ?_ ?_) | refine Za7 ?_ | refine Za1 ?_ | refine Za3 ?_ | (apply Za8; (first | exact Za2 rfl | (apply Zam; exact Zad rfl rfl rfl)); exact rfl) | refine Zaw rfl ?_ | (apply Zac; exact rfl; first | (apply Zaf; (refine Zab (.one 0 rfl .nil) Tryz.func184 rfl his rfl ?_; rintro _ _ ⟨rfl, rfl⟩)) | (apply Zaz; refine Zao (k := 1) (l0 := []) rfl rfl rfl ?_))))
       all_goals (try (exfalso; first | contradiction | omega))
       · rintro _ _ h; exact h.elim
       · rintro ch loc ⟨rfl, rfl⟩; ((repeat (first | (with_reducible refine Zbd ?_) | (with_reducible refine Zbn ?_))); refine Zar (loc' := []) (List.nil_sublist _) ?_); exact ⟨_, hq, rfl, rfl⟩
     | succ m =>
       have hd := deeper13_yes b v en qs m hn
       have kw := Zcs b v en qs sStar
       replace hq : res = bnd (want sStar) (fun _ => bnd (termN m) fun x => ret (Ex.mk 8 [] t0.n u.n [x])) v := hq
       (repeat' (first | (apply Zaq 40; refine Zb7 (.one 0 rfl .nil) Tryz.func146 rfl kw rfl ?_ ?_) | refine Za7 ?_ | refine Za1 ?_ | refine Za3 ?_ | (apply Za8; (first | exact Za2 rfl | exact Za5 rfl | (apply Zam; exact Zad rfl rfl rfl)); exact rfl) | refine Zaw rfl ?_ | (apply Zac; exact rfl; first | (apply Zaf; first | (refine Zab (.one 0 rfl .nil) Tryz.func184 rfl his rfl ?_; rintro _ _ ⟨rfl, rfl⟩) | (refine Zab (.one 0 rfl .nil) Tryz.func228 rfl hd rfl ?_; rintro _ _ ⟨rfl, rfl⟩)) | (apply Zaz; refine Zao (k := 1) (l0 := []) rfl rfl rfl ?_))))
       all_goals (try (exfalso; first | contradiction | omega))
       rotate_left
       · rintro ch loc ⟨e, g5, rfl, rfl⟩; ((repeat (first | (with_reducible refine Zbd ?_) | (with_reducible refine Zbn ?_))); refine Zar (loc' := []) (List.nil_sublist _) ?_); exact ⟨e, hq.trans (Zap g5), rfl, rfl⟩
       rintro pw loc ⟨t5, g5, rfl⟩
       have hl5 := (Zbb (Q := TT) (tt_w sStar)).len g5
       rw [Zal g5] at hq
       have kt := htm m rfl b t5 en qs (by omega)
       (repeat' (first | (apply Zaq 43; refine Zb7 (.one 0 rfl .nil) Tryz.func212 rfl kt rfl ?_ ?_) | refine Za1 ?_ | refine Za3 ?_ | (apply Za8; (exact Za2 rfl); exact rfl)))
       rotate_left
       · rintro ch loc ⟨e, g6, rfl, rfl⟩; ((repeat (first | (with_reducible refine Zbd ?_) | (with_reducible refine Zbn ?_))); refine Zar (loc' := []) (List.nil_sublist _) ?_); exact ⟨e, hq.trans (Zap g6), rfl, rfl⟩
       rintro _ loc ⟨kx, x, t6, g6, rfl, rfl⟩
       rw [Zal g6] at hq
       (repeat' (first | (apply Zci 12; refine Stop.out ?_) | refine Za3 ?_ | (apply Za8; ((apply Zam; exact Zad rfl rfl rfl)); exact rfl) | (apply Zac; exact rfl; first | (apply Zaz; refine Zao (k := 2) (l0 := []) rfl rfl rfl ?_) | (apply Zb6; (refine Zbf rfl rfl ?_); intro _))))
       rename_i b44
       refine ⟨Zbc (Leads_row_vec (k := 0) (sz := 5) (n := 1) (c := 1) rfl rfl rfl (by decide) (by decide) (Leads_fcell (j := 0) (k := 1) (i := 4) (E := eEx kx) [x] rfl rfl rfl rfl rfl rfl (hby := by show 1 * 64 ≤ _; decide))) ?_⟩
       (repeat' (first | refine Za7 ?_ | refine Za1 ?_ | refine Za3 ?_ | (apply Za8; ((apply Za9; exact Zbm (k := 1) rfl rfl rfl)); exact rfl) | refine Zb2 ?_ | (apply Zac; exact rfl; (apply Zaz; refine Zao (k := 2) (l0 := []) rfl rfl rfl ?_))))
       exact ⟨.inr rfl, ret1 rfl (.cella (k := 2) rfl rfl rfl rfl inferInstance rfl) (by exact .cons_cons _ (List.nil_sublist _)) ⟨kx + 1, _, _, hq, rfl, rfl⟩⟩
theorem exprs13_any : ∀ n, n ≤ 16 → ExprC 212 termN n ∧ ExprC 189 exprN n
 | 0, h => by
   have hf := factor13_any 0 h fun m e => by cases e
   have ht := term13_any 0 h hf fun m e => by cases e
   exact ⟨ht, expr13_any 0 h ht⟩
 | n + 1, h => by
   obtain ⟨h1, h2⟩ := exprs13_any n (by omega)
   have hf := factor13_any (n + 1) h fun m e => by cases e; exact h2
   have ht := term13_any (n + 1) h hf fun m e => by cases e; exact h1
   exact ⟨ht, expr13_any (n + 1) h ht⟩
end Go.Proofs.YthdldeenpgeemaaGreatDoor
namespace Go.Fr
open Go.RowKit Go.Kx
theorem round_zero (nm : List UInt8) (pn qt ct : Int) (fr : Bool) (ti : List UInt8) (tn : Int) (p : Bool) : Ims [exT nm, exI .i64 pn, exI .i64 qt, exI .i64 ct, exB p, exB fr, exI .i64 0, exT [], exI .i64 0, exI .i64 0, ex (.slice none 0 0), exT ti, exI .i64 tn] (roundV 1 ⟨nm, pn, qt, ct, p, fr, .mk 0 [] 0 0 [], ti, tn⟩) :=
 .cons (Im.refl _) (.cons (Im.refl _) (.cons (Im.refl _) (.cons (Im.refl _) (.cons (Im.refl _) (.cons (Im.refl _) (.cons (Im.refl _) (.cons (Im.refl _) (.cons (Im.refl _) (.cons (Im.refl _) (.cons Im.nil (.cons (Im.refl _) (.cons (Im.refl _) .nil))))))))))))
theorem roundV_le {k k' : Nat} (h : k ≤ k') (x : RoundD) : Ims (roundV k x) (roundV k' x) :=
 .cons (Im.refl _) (.cons (Im.refl _) (.cons (Im.refl _) (.cons (Im.refl _) (.cons (Im.refl _) (.cons (Im.refl _) (.cons (Im.refl _) (.cons (Im.refl _) (.cons (Im.refl _) (.cons (Im.refl _) (.cons (exL_le h _) (.cons (Im.refl _) (.cons (Im.refl _) .nil))))))))))))
theorem ims_flatR {k k' : Nat} (h : k ≤ k') : ∀ l : List RoundD, Ims (l.flatMap (roundV k)) (l.flatMap (roundV k'))
 | [] => .nil
 | x :: l => by
   rw [List.flatMap_cons, List.flatMap_cons]
   exact ims_app (roundV_le h x) (ims_flatR h l)
end Go.Fr
namespace Go.Proofs.YthdldeenpgeemaaGreatDoor
open Go Go.RowKit Go.Kx Go.Fr Go.Lx Go.Sx
theorem score_yes {ts : List TokD} (h : isT wPlaces ts = true) : scoreP ts = .ok ((true, .mk 0 [] 0 0 []), ts.tail) := (if_pos h).trans (Zal (want_yes h))
theorem score_no {ts : List TokD} (h : isT wPlaces ts = false) : scoreP ts = bnd (want wScore) (fun _ => bnd (exprN 16) fun x => ret (false, x)) ts := if_neg (by rw [h]; simp)
theorem tref_yes {ts : List TokD} (h : isT wTie ts = true) : tieRefP ts = bnd (named wTie) (fun nm => ret (nm, 0)) ts := if_pos h
theorem tref_no {ts : List TokD} (h : isT wTie ts = false) : tieRefP ts = .ok (([], -1), ts) := if_neg (by rw [h]; simp)
theorem expr16_any (b : Nat) (ts : List TokD) (en : Nat) (qs : List SP) (hts : ts.length ≤ 70000) : FnP Tryz.prog 189 [ex (.pointer (some ⟨b, 0, none⟩)), exI .i64 0] [prow b ts en qs] (fun p loc => ∃ (k : Nat) (x : Ex) (r : List TokD), exprN 16 ts = .ok (x, r) ∧ p = agg (exV k x) ∧ loc = [prow b r en qs]) (fun ch loc => ∃ e, exprN 16 ts = .error e ∧ wrongP en e ch loc) := (exprs13_any 16 (Nat.le_refl _)).2 b ts en qs hts
set_option maxHeartbeats 4000000 in
set_option maxRecDepth 100000 in
theorem round13_any (b : Nat) (ts : List TokD) (en : Nat) (qs : List SP) (hts : ts.length ≤ 70000) : FnP Tryz.prog 154 [ex (.pointer (some ⟨b, 0, none⟩))] [prow b ts en qs] (fun p loc => ∃ (k : Nat) (x : RoundD) (r : List TokD), roundB ts = .ok (x, r) ∧ p = agg (roundV k x) ∧ loc = [prow b r en qs]) (fun ch loc => ∃ e, roundB ts = .error e ∧ wrongP en e ch loc) := by
 refine Zc0 Tryz.func154 rfl Tryz.ntmps154 rfl fun w0 F0 out => ?_
 generalize hres : roundB ts = res
 unfold roundB at hres
 have kg1 := name13_any b ts en qs wRound
 (repeat' (first | (apply Zaq 4; refine Zb7 (.one 1 rfl .nil) Tryz.func145 rfl kg1 rfl ?_ ?_) | refine Za7 ?_ | refine Za1 ?_ | refine Za3 ?_ | (apply Za8; (exact Za2 rfl); exact rfl) | (apply Zac; exact rfl; (apply Zbs; refine Zbh ?_; intro _))))
 all_goals (try (exfalso; first | contradiction | omega))
 rotate_left
 · rintro ch loc ⟨e, g1, rfl, rfl⟩; ((repeat (first | (with_reducible refine Zbd ?_) | (with_reducible refine Zbn ?_))); refine Zar (loc' := []) (List.nil_sublist _) ?_); exact ⟨e, hres.symm.trans (Zap g1), rfl, rfl⟩
 rintro _ loc ⟨nm, t1, g1, rfl, rfl⟩
 rw [Zal g1] at hres
 rename_i b2
 have kg2 := number13_any b t1 en qs wPanel
 (repeat' (first | (apply Zaq 6; refine Zb7 (.one 0 rfl .nil) Tryz.func158 rfl kg2 rfl ?_ ?_) | (apply Za8; (first | exact Za2 rfl); exact rfl)))
 all_goals (try (exfalso; first | contradiction | omega))
 rotate_left
 · rintro ch loc ⟨e, g2, rfl, rfl⟩; ((repeat (first | (with_reducible refine Zbd ?_) | (with_reducible refine Zbn ?_))); refine Zar (loc' := []) (List.nil_sublist _) ?_); exact ⟨e, hres.symm.trans (Zap g2), rfl, rfl⟩
 rintro _ loc ⟨pn, t2, g2, rfl, rfl⟩
 rw [Zal g2] at hres
 have kg3 := number13_any b t2 en qs wQuota
 (repeat' (first | (apply Zaq 8; refine Zb7 (.one 0 rfl .nil) Tryz.func158 rfl kg3 rfl ?_ ?_) | (apply Za8; (first | exact Za2 rfl); exact rfl)))
 all_goals (try (exfalso; first | contradiction | omega))
 rotate_left
 · rintro ch loc ⟨e, g3, rfl, rfl⟩; ((repeat (first | (with_reducible refine Zbd ?_) | (with_reducible refine Zbn ?_))); refine Zar (loc' := []) (List.nil_sublist _) ?_); exact ⟨e, hres.symm.trans (Zap g3), rfl, rfl⟩
 rintro _ loc ⟨qt, t3, g3, rfl, rfl⟩
 rw [Zal g3] at hres
 have hl1 := (lw_named (Q := TT) (tt_w wRound) fun _ _ _ => trivial).len g1
 have hl2 := (Zd6 (Q := TT) (tt_w wPanel) fun _ _ => trivial).len g2
 have hl3 := (Zd6 (Q := TT) (tt_w wQuota) fun _ _ => trivial).len g3
 have kg5 := one13_any b t3 en qs [wOver, wUnder, wLots] (by decide)
 (repeat' (first | (apply Zaq 14; refine Zbp (k := 0) (E := eStr) (t := 13) [wOver, wUnder, wLots] rfl rfl rfl rfl ?_ (hc := by decide) (hby := by decide); refine Zb7 (.one 0 rfl .nil) Tryz.func185 rfl kg5 rfl ?_ ?_) | refine Za7 ?_ | refine Za1 ?_ | refine Za3 ?_ | (apply Za8; (first | exact Za2 rfl | (apply Zam; exact Zad rfl rfl rfl)); exact rfl) | (apply Zac; exact rfl; first | (apply Zaz; refine Zao (k := 1) (l0 := []) rfl rfl rfl ?_) | (apply Zb6; (refine Zbx rfl (by repeat (first | exact PartsO.nil | (apply PartsO.cons; exact rfl; exact inferInstance; exact rfl; exact rfl))) ?_); intro _))))
 rotate_left
 · rintro ch loc ⟨e, g5, rfl, rfl⟩; ((repeat (first | (with_reducible refine Zbd ?_) | (with_reducible refine Zbn ?_))); refine Zar (loc' := []) (List.nil_sublist _) ?_); exact ⟨e, hres.symm.trans (Zap ((cut_one t3).trans (Zap g5))), rfl, rfl⟩
 rintro _ loc ⟨ct, t4, g5, rfl, rfl⟩
 have g6 := (cut_one t3).trans (Zal g5)
 have hl4 := (lw_cut (Q := TT) fun w _ => tt_w w).len g6
 rw [Zal g6, Zal (flag_eq _ _)] at hres
 have hfr := Zc3 b t4 en qs wFree
 obtain ⟨t5, ht5⟩ : ∃ t5, t5 = if isT wFree t4 then t4.tail else t4 := ⟨_, rfl⟩
 have hl5 : t5.length ≤ t4.length := by rw [ht5]; split <;> simp
 rw [← ht5] at hfr hres
 clear ht5
 generalize isT wFree t4 = fr at hfr hres
 have hpl := Zc3 b t5 en qs wPlaces
 have hcl := fun t => Zc8 b t en qs wTie
 cases hP : isT wPlaces t5
 · rw [hP, if_neg (by simp)] at hpl
   have kw := Zcs b t5 en qs wScore
   have hsc := score_no hP
   (repeat' (first | (apply Zaq 26; refine Zb7 (.one 0 rfl .nil) Tryz.func146 rfl kw rfl ?_ ?_) | refine Za7 ?_ | refine Za1 ?_ | refine Za3 ?_ | (apply Za8; (first | exact Za2 rfl | (apply Za9; exact Zah (k := 1) rfl rfl rfl rfl) | (apply Zam; exact Zad rfl rfl rfl) | (apply g_un; exact Zcy rfl)); exact rfl) | refine Zaw rfl ?_ | (apply Zac; exact rfl; first | (apply Zaf; first | (refine Zab (.one 0 rfl .nil) Tryz.func155 rfl hfr rfl ?_; rintro _ _ ⟨rfl, rfl⟩) | (refine Zab (.one 0 rfl .nil) Tryz.func155 rfl hpl rfl ?_; rintro _ _ ⟨rfl, rfl⟩)) | (apply Zaz; refine Zao (k := 1) (l0 := []) rfl rfl rfl ?_))))
   all_goals (try (exfalso; first | contradiction | omega))
   rotate_left
   · rintro ch loc ⟨e, g7, rfl, rfl⟩; ((repeat (first | (with_reducible refine Zbd ?_) | (with_reducible refine Zbn ?_))); refine Zar (loc' := []) (List.nil_sublist _) ?_); exact ⟨e, hres.symm.trans (Zap (hsc.trans (Zap g7))), rfl, rfl⟩
   rintro pw loc ⟨t6, g7, rfl⟩
   have hl6 := (Zbb (Q := TT) (tt_w wScore)).len g7
   have kx := expr16_any b t6 en qs (by omega)
   (repeat' (first | (apply Zaq 28; refine Zb7 (.one 0 rfl .nil) Tryz.func189 rfl kx rfl ?_ ?_) | refine Za1 ?_ | refine Za3 ?_ | (apply Za8; (exact Za2 rfl); exact rfl)))
   all_goals (try (exfalso; first | contradiction | omega))
   rotate_left
   · rintro ch loc ⟨e, g8, rfl, rfl⟩; ((repeat (first | (with_reducible refine Zbd ?_) | (with_reducible refine Zbn ?_))); refine Zar (loc' := []) (List.nil_sublist _) ?_); exact ⟨e, hres.symm.trans (Zap (hsc.trans ((Zal g7).trans (Zap g8)))), rfl, rfl⟩
   rintro _ loc ⟨k, x, t7, g8, rfl, rfl⟩
   have hl7 := (lw_exprT 16).len g8
   rw [Zal (hsc.trans ((Zal g7).trans (Zal g8)))] at hres
   (repeat' (first | (apply Zci 8; refine Stop.out ?_) | refine Za7 ?_ | refine Za3 ?_ | (apply Za8; ((apply Zam; exact Zad rfl rfl rfl)); exact rfl) | (apply Zac; exact rfl; (apply Zaz; refine Zao (k := 1) (l0 := []) rfl rfl rfl ?_))))
   refine ⟨Zbc (env' := [(0, ex (.pointer (some ⟨b, 0, none⟩))), (2, ex (.pointer (some ⟨b2, 0, none⟩)))]) (loc' := [prow b t7 en qs, row b2 54 13 [exT nm, exI .i64 pn, exI .i64 qt, exI .i64 (ct : Int), exB false, exB fr, exI .i64 x.kind, exT x.name, exI .i64 x.n, exI .i64 x.d, exL k x.l, exT [], exI .i64 0]]) (Zaa (by repeat (first | exact Zaj | refine Zae rfl ?_)) (by first | exact .refl _ | exact .cons_cons _ (.cons _ (.refl _)))) ?_⟩
   have hcl := hcl t7
   cases hT : isT wTie t7
   · rw [hT] at hcl
     rw [Zal (tref_no hT)] at hres
     (repeat' (first | refine Za7 ?_ | refine Za1 ?_ | refine Za3 ?_ | (apply Za8; (first | exact Za2 rfl | (apply Za9; exact Zbm (k := 1) rfl rfl rfl) | (apply Zam; exact Zad rfl rfl rfl)); exact rfl) | refine Zan ?_ | refine Zb2 ?_ | refine Zb0 rfl ?_ | (apply Zac; exact rfl; first | (apply Zaf; (refine Zab (.one 0 rfl .nil) Tryz.func184 rfl hcl rfl ?_; rintro _ _ ⟨rfl, rfl⟩)) | (apply Zaz; refine Zao (k := 1) (l0 := []) rfl rfl rfl ?_))))
     all_goals (try (exfalso; first | contradiction | omega))
     exact ⟨.inr rfl, ret1 rfl (.cella (k := 1) rfl rfl rfl rfl inferInstance rfl) (by exact .cons_cons _ (List.nil_sublist _)) ⟨k, _, _, hres.symm, rfl, rfl⟩⟩
   · rw [hT] at hcl
     have htr := tref_yes hT
     have kn := name13_any b t7 en qs wTie
     (repeat' (first | (apply Zaq 34; refine Zb7 (.one 0 rfl .nil) Tryz.func145 rfl kn rfl ?_ ?_) | refine Za7 ?_ | refine Za1 ?_ | refine Za3 ?_ | (apply Za8; (first | exact Za2 rfl | (apply Zam; exact Zad rfl rfl rfl)); exact rfl) | refine Zaw rfl ?_ | (apply Zac; exact rfl; first | (apply Zaf; (refine Zab (.one 0 rfl .nil) Tryz.func184 rfl hcl rfl ?_; rintro _ _ ⟨rfl, rfl⟩)) | (apply Zaz; refine Zao (k := 1) (l0 := []) rfl rfl rfl ?_))))
     all_goals (try (exfalso; first | contradiction | omega))
     rotate_left
     · rintro ch loc ⟨e, g9, rfl, rfl⟩; ((repeat (first | (with_reducible refine Zbd ?_) | (with_reducible refine Zbn ?_))); refine Zar (loc' := []) (List.nil_sublist _) ?_); exact ⟨e, hres.symm.trans (Zap (htr.trans (Zap g9))), rfl, rfl⟩
     rintro _ loc ⟨ti, t8, g9, rfl, rfl⟩
     rw [Zal (htr.trans (Zal g9))] at hres
     (repeat' (first | refine Za7 ?_ | refine Za1 ?_ | refine Za3 ?_ | (apply Za8; (first | (apply Za9; exact Zbm (k := 1) rfl rfl rfl) | (apply Zam; exact Zad rfl rfl rfl)); exact rfl) | refine Zb2 ?_ | (apply Zac; exact rfl; (apply Zaz; refine Zao (k := 1) (l0 := []) rfl rfl rfl ?_))))
     exact ⟨.inr rfl, ret1 rfl (.cella (k := 1) rfl rfl rfl rfl inferInstance rfl) (by exact .cons_cons _ (List.nil_sublist _)) ⟨k, _, _, hres.symm, rfl, rfl⟩⟩
 · rw [hP, if_pos rfl] at hpl
   rw [Zal (score_yes hP)] at hres
   (repeat' (first | (apply Zci 8; refine Stop.out ?_) | refine Za7 ?_ | refine Za1 ?_ | refine Za3 ?_ | (apply Za8; (first | exact Za2 rfl | (apply Za9; exact Zah (k := 1) rfl rfl rfl rfl) | (apply Zam; exact Zad rfl rfl rfl) | (apply g_un; exact Zcy rfl)); exact rfl) | refine Zan ?_ | refine Zb0 rfl ?_ | (apply Zac; exact rfl; first | (apply Zaf; first | (refine Zab (.one 0 rfl .nil) Tryz.func155 rfl hfr rfl ?_; rintro _ _ ⟨rfl, rfl⟩) | (refine Zab (.one 0 rfl .nil) Tryz.func155 rfl hpl rfl ?_; rintro _ _ ⟨rfl, rfl⟩)) | (apply Zaz; refine Zao (k := 1) (l0 := []) rfl rfl rfl ?_))))
   refine ⟨Zbc (env' := [(0, ex (.pointer (some ⟨b, 0, none⟩))), (2, ex (.pointer (some ⟨b2, 0, none⟩)))]) (loc' := [prow b t5.tail en qs, row b2 54 13 [exT nm, exI .i64 pn, exI .i64 qt, exI .i64 (ct : Int), exB true, exB fr, exI .i64 0, exT [], exI .i64 0, exI .i64 0, ex (.slice none 0 0), exT [], exI .i64 0]]) (Zaa (by repeat (first | exact Zaj | refine Zae rfl ?_)) (by first | exact .refl _ | exact .cons_cons _ (.cons _ (.refl _)))) ?_⟩
   have hcl := hcl t5.tail
   cases hT : isT wTie t5.tail
   · rw [hT] at hcl
     rw [Zal (tref_no hT)] at hres
     (repeat' (first | refine Za7 ?_ | refine Za1 ?_ | refine Za3 ?_ | (apply Za8; (first | exact Za2 rfl | (apply Za9; exact Zbm (k := 1) rfl rfl rfl) | (apply Zam; exact Zad rfl rfl rfl)); exact rfl) | refine Zan ?_ | refine Zb2 ?_ | refine Zb0 rfl ?_ | (apply Zac; exact rfl; first | (apply Zaf; (refine Zab (.one 0 rfl .nil) Tryz.func184 rfl hcl rfl ?_; rintro _ _ ⟨rfl, rfl⟩)) | (apply Zaz; refine Zao (k := 1) (l0 := []) rfl rfl rfl ?_))))
     all_goals (try (exfalso; first | contradiction | omega))
     exact ⟨.inr rfl, retw (ret1 rfl (.cella (k := 1) rfl rfl rfl rfl inferInstance rfl) (by exact .cons_cons _ (List.nil_sublist _)) ⟨rfl, rfl⟩) (Ims.agg (round_zero _ _ _ _ _ _ _ _)) ⟨1, _, _, hres.symm, rfl, rfl⟩⟩
   · rw [hT] at hcl
     have htr := tref_yes hT
     have kn := name13_any b t5.tail en qs wTie
     (repeat' (first | (apply Zaq 34; refine Zb7 (.one 0 rfl .nil) Tryz.func145 rfl kn rfl ?_ ?_) | refine Za7 ?_ | refine Za1 ?_ | refine Za3 ?_ | (apply Za8; (first | exact Za2 rfl | (apply Zam; exact Zad rfl rfl rfl)); exact rfl) | refine Zaw rfl ?_ | (apply Zac; exact rfl; first | (apply Zaf; (refine Zab (.one 0 rfl .nil) Tryz.func184 rfl hcl rfl ?_; rintro _ _ ⟨rfl, rfl⟩)) | (apply Zaz; refine Zao (k := 1) (l0 := []) rfl rfl rfl ?_))))
     all_goals (try (exfalso; first | contradiction | omega))
     rotate_left
     · rintro ch loc ⟨e, g9, rfl, rfl⟩; ((repeat (first | (with_reducible refine Zbd ?_) | (with_reducible refine Zbn ?_))); refine Zar (loc' := []) (List.nil_sublist _) ?_); exact ⟨e, hres.symm.trans (Zap (htr.trans (Zap g9))), rfl, rfl⟩
     rintro _ loc ⟨ti, t8, g9, rfl, rfl⟩
     rw [Zal (htr.trans (Zal g9))] at hres
     (repeat' (first | refine Za7 ?_ | refine Za1 ?_ | refine Za3 ?_ | (apply Za8; (first | (apply Za9; exact Zbm (k := 1) rfl rfl rfl) | (apply Zam; exact Zad rfl rfl rfl)); exact rfl) | refine Zb2 ?_ | (apply Zac; exact rfl; (apply Zaz; refine Zao (k := 1) (l0 := []) rfl rfl rfl ?_))))
     exact ⟨.inr rfl, retw (ret1 rfl (.cella (k := 1) rfl rfl rfl rfl inferInstance rfl) (by exact .cons_cons _ (List.nil_sublist _)) ⟨rfl, rfl⟩) (Ims.agg (round_zero _ _ _ _ _ _ _ _)) ⟨1, _, _, hres.symm, rfl, rfl⟩⟩
end Go.Proofs.YthdldeenpgeemaaGreatDoor
namespace Go.Sx
open Go.Lx Go.Fr
def beginP : List TokD → Res (List UInt8) := bnd (named wCompetition) fun nm => bnd (want sSemi) fun _ => ret nm
def partsP : List TokD → Res (List Crit × List ItemD × List ItemD × List TieD × List RoundD) := bnd (someP wCriterion critB) fun cs => bnd (someP wBonus (itemB wBonus)) fun bs => bnd (someP wMalus (itemB wMalus)) fun ms => bnd (someP wTie tieB) fun tis => bnd (someP wRound roundB) fun rs => ret (cs, bs, ms, tis, rs)
theorem bnd_assoc {α β γ : Type} (f : List TokD → Res α) (g : α → List TokD → Res β) (h : β → List TokD → Res γ) : bnd (bnd f g) h = bnd f fun x => bnd (g x) h := by
 funext ts
 unfold bnd
 cases f ts <;> rfl
theorem bnd_ret {α β : Type} (x : α) (g : α → List TokD → Res β) : bnd (ret x) g = g x := rfl
def restP : Nat → RulesD → List TokD → Res RulesD
 | 0, r => bnd beginP fun nm => restP 1 { r with name := nm }
 | 1, r => bnd partsP fun p => restP 2 { r with crits := p.1, bonus := p.2.1, malus := p.2.2.1, ties := p.2.2.2.1, rounds := p.2.2.2.2 }
 | 2, r => bnd prizesP fun x => restP 3 { r with prizes := x }
 | 3, r => bnd pointsP fun x => restP 4 { r with points := x.1, best := x.2 }
 | _, r => bnd endP fun _ => ret r
termination_by i => 4 - i
theorem rules_rest : rulesP = restP 0 zeroR := by
 simp only [restP, beginP, partsP, bnd_assoc, bnd_ret]
 rfl
end Go.Sx
namespace Go.Proofs.YthdldeenpgeemaaGreatDoor
open Go Go.RowKit Go.Kx Go.Fr Go.Lx Go.Sx
set_option maxHeartbeats 4000000 in
set_option maxRecDepth 100000 in
theorem item13_fn (b : Nat) (w : List UInt8) : FnC Tryz.prog 150 [ex (.pointer (some ⟨b, 0, none⟩)), exT w] [] (fun p loc => p = fval (.func 186) [] [fp [ex (.pointer (some ⟨b, 0, none⟩))], fp [exT w]] ∧ loc = []) := by
 refine Zbr Tryz.func150 rfl Tryz.ntmps150 rfl fun w0 F0 out => ?_
 (repeat' (first | (apply Zaq 5; refine WPL_leads ((Leads_fp (k := 0) (t := 3) rfl rfl).trans (Leads_fp (k := 0) (t := 2) rfl rfl)) ?_; apply Za8; exact WT_mkfval (ps := []) (qs := [fp [ex (.pointer (some ⟨b, 0, none⟩))], fp [exT w]]) rfl rfl; exact rfl) | refine Za7 ?_ | refine Za1 ?_ | refine Za3 ?_ | (apply Za8; (exact Za5 rfl); exact rfl) | refine Zb2 ?_ | (apply Zac; exact rfl; (apply Zdv; refine Zdn rfl ?_; intro _))))
 exact ⟨.inr rfl, ret1 rfl (.tmp rfl) (List.nil_sublist _) ⟨rfl, rfl⟩⟩
set_option maxHeartbeats 4000000 in
set_option maxRecDepth 100000 in
theorem someRound13_any (b : Nat) (ts : List TokD) (en : Nat) (qs : List SP) (w : List UInt8) (hts : ts.length ≤ 70000) : FnP Tryz.prog 153 [ex (.pointer (some ⟨b, 0, none⟩)), exT w, fval (.func 154) [ex (.pointer (some ⟨b, 0, none⟩))] []] [prow b ts en qs] (fun p loc => ∃ (K : Nat) (x : List RoundD) (r : List TokD), someP w roundB ts = .ok (x, r) ∧ p = isl (eRound K) x ∧ loc = [prow b r en qs]) (fun ch loc => ∃ e, someP w roundB ts = .error e ∧ wrongP en e ch loc) := by
 have k0 := fun (ts : List TokD) (hts : ts.length ≤ 70000) => round13_any b ts en qs hts
 have hlw : Lw TT roundB := lw_roundT
 have hls : Less roundB := less_round
 refine Zc0 Tryz.func153 rfl Tryz.ntmps153 rfl fun w0 F0 out => ?_
 generalize hres : someP w roundB ts = res
 unfold someP at hres
 (repeat' (first | refine Za7 ?_ | refine Za1 ?_ | refine Za3 ?_ | (apply Za8; (first | exact Za5 rfl); exact rfl) | refine Zak ?_))
 refine Zck (fun x : Nat × Value × List RoundD × List TokD => ([(0, ex (.pointer (some ⟨b, 0, none⟩))), (1, exT w), (2, fval (.func 154) [ex (.pointer (some ⟨b, 0, none⟩))] []), (6, ex x.2.1)], [prow b x.2.2.2 en qs, vec x.2.1 54 13 x.2.2.1.length (x.2.2.1.flatMap (roundV x.1))])) (fun x => runP (isT w) (someStep roundB) x.2.2.1 x.2.2.2 = res ∧ x.2.2.1.length + x.2.2.2.length ≤ ts.length) (fun x => x.2.2.2.length) (0, .slice none 0 0, [], ts) ?_ ⟨hres, by show 0 + ts.length ≤ _; omega⟩ fun x hx => ?_
 · refine Leads_nilv 54 13 ?_
   refine Leads.trans (Leads_perm (.swap _ _ _)) ?_
   exact Zaa (by repeat (first | exact Zaj | refine Zae rfl ?_)) (List.Sublist.refl _)
 obtain ⟨K, v, acc, t⟩ := x
 obtain ⟨hinv, hacc⟩ := hx
 simp only at hinv hacc ⊢
 clear hres
 rw [Zde rfl (less_someStep hls)] at hinv
 have his := Zc8 b t en qs w
 cases hT : isT w t
 · rw [hT] at his hinv
   rw [if_neg (by simp)] at hinv
   (repeat' (first | (apply Zaq 17; refine WPL_fvec (k := 1) (t := 6) (E := (eRound K)) acc rfl rfl rfl rfl ?_ (hby := by show acc.length * 136 ≤ _; omega)) | refine Za7 ?_ | refine Za1 ?_ | refine Za3 ?_ | (apply Za8; (first | exact Za2 rfl | exact Za5 rfl); exact rfl) | refine Zb2 ?_ | refine Zcf ?_ | refine Zb0 rfl ?_ | (apply Zac; exact rfl; (apply Zaf; (refine Zab (.one 0 rfl .nil) Tryz.func184 rfl his rfl ?_; rintro _ _ ⟨rfl, rfl⟩)))))
   all_goals (try (exfalso; first | contradiction | omega))
   exact ⟨.inr rfl, ret1 rfl (.tmp rfl) (List.Sublist.refl _) ⟨K, _, _, hinv.symm, rfl, rfl⟩⟩
 · rw [hT] at his hinv
   rw [if_pos rfl] at hinv
   have k1 := k0 t (by omega)
   (repeat' (first | (apply Zaq 12; refine WPL_callF (args := []) rfl (.one 0 rfl .nil) Tryz.func154 rfl k1 rfl ?_ ?_) | refine Za7 ?_ | refine Za1 ?_ | refine Za3 ?_ | (apply Za8; (exact Za2 rfl); exact rfl) | refine Zak ?_ | refine Zan ?_ | refine Zaw rfl ?_ | (apply Zac; exact rfl; (apply Zaf; (refine Zab (.one 0 rfl .nil) Tryz.func184 rfl his rfl ?_; rintro _ _ ⟨rfl, rfl⟩)))))
   all_goals (try (exfalso; first | contradiction | omega))
   rotate_left
   · rintro ch loc ⟨e, g1, rfl, rfl⟩; ((repeat (first | (with_reducible refine Zbd ?_) | (with_reducible refine Zbn ?_))); refine Zar (loc' := []) (List.nil_sublist _) ?_); exact ⟨e, hinv.symm.trans (Zap (Zap g1)), rfl, rfl⟩
   rintro _ loc ⟨ky, y, t2, g1, rfl, rfl⟩
   have hl2 := hls.lt g1
   have hw : ∀ r, want sSemi t2 = .ok ((), r) → someStep roundB acc t = ret (acc ++ [y]) r := fun r g => (Zal g1).trans (Zal g)
   have k2 := Zcs b t2 en qs sSemi
   (repeat' (first | (apply Zaq 16; refine Zb7 (.one 1 rfl .nil) Tryz.func146 rfl k2 rfl ?_ ?_) | refine Za1 ?_ | refine Za3 ?_ | (apply Za8; (first | exact Za2 rfl | exact Za5 rfl); exact rfl) | (apply Zac; exact rfl; first | (apply Zd9; ((refine Zd4 (k := 2) (l0 := []) rfl rfl (by exact Src_rowW (k := 0) rfl rfl) rfl ?_)); intro _) | (apply Zb6; (refine Zbf rfl rfl ?_); intro _))))
   rotate_left
   · rintro ch loc ⟨e, g2, rfl, rfl⟩; ((repeat (first | (with_reducible refine Zbd ?_) | (with_reducible refine Zbn ?_))); refine Zar (loc' := []) (List.nil_sublist _) ?_); exact ⟨e, hinv.symm.trans (Zap (show someStep roundB acc t = .error e from (Zal g1).trans (Zap g2))), rfl, rfl⟩
   rintro pw loc ⟨t3, g2, rfl⟩
   have hl3 := (Zbb (Q := TT) (tt_w sSemi)).len g2
   rw [Zal (hw t3 g2)] at hinv
   (repeat' (first | refine Za3 ?_))
   rename_i b13 v2
   refine ⟨(max K ky, v2, acc ++ [y], t3), ⟨hinv, by simp only [List.length_append, List.length_cons, List.length_nil]; omega⟩, by show t3.length < t.length; omega, ?_⟩
   refine Leads.trans (Leads_vec_im (k := 2) (ps := acc.flatMap (roundV K) ++ roundV ky y) rfl (ims_app (ims_flatR (Nat.le_max_left K ky) acc) (roundV_le (Nat.le_max_right K ky) y))) ?_
   simp only [List.length_append, List.flatMap_append, List.length_cons, List.length_nil, List.flatMap_cons, List.flatMap_nil, List.append_nil]
   exact Zaa (by repeat (first | exact Zaj | refine Zae rfl ?_)) (by exact .cons_cons _ (.cons _ (.refl _)))
set_option maxHeartbeats 4000000 in
set_option maxRecDepth 100000 in
theorem begin13_any (b : Nat) (ts : List TokD) (en : Nat) (q0 q1 q2 q3 q4 q5 q6 q7 q8 : SP) (_hts : ts.length ≤ 70000) : FnP Tryz.prog 83 [ex (.pointer (some ⟨b, 0, none⟩))] [prow b ts en [q0, q1, q2, q3, q4, q5, q6, q7, q8]] (fun _ loc => ∃ x r, beginP ts = .ok (x, r) ∧ loc = [prow b r en [exT x, q1, q2, q3, q4, q5, q6, q7, q8]]) (fun ch loc => ∃ e, beginP ts = .error e ∧ wrongP en e ch loc) := by
 refine Zc0 Tryz.func83 rfl Tryz.ntmps83 rfl fun w0 F0 out => ?_
 generalize hres : beginP ts = res
 unfold beginP at hres
 have k1 := name13_any b ts en [q0, q1, q2, q3, q4, q5, q6, q7, q8] wCompetition
 (repeat' (first | (apply Zaq 4; refine Zb7 (.one 0 rfl .nil) Tryz.func145 rfl k1 rfl ?_ ?_) | refine Za7 ?_ | refine Za1 ?_ | (apply Za8; (exact Za2 rfl); exact rfl)))
 all_goals (try (exfalso; first | contradiction | omega))
 rotate_left
 · rintro ch loc ⟨e, g1, rfl, rfl⟩; ((repeat (first | (with_reducible refine Zbd ?_) | (with_reducible refine Zbn ?_))); refine Zar (loc' := []) (List.nil_sublist _) ?_); exact ⟨e, hres.symm.trans (Zap g1), rfl, rfl⟩
 rintro _ loc ⟨nm, t1, g1, rfl, rfl⟩
 rw [Zal g1] at hres
 have k2 := Zcs b t1 en [exT nm, q1, q2, q3, q4, q5, q6, q7, q8] sSemi
 (repeat' (first | (apply Zaq 9; refine Zb7 (.one 0 rfl .nil) Tryz.func146 rfl k2 rfl ?_ ?_) | refine Za1 ?_ | refine Za3 ?_ | (apply Za8; (first | exact Za2 rfl | (apply Zam; exact Zad rfl rfl rfl) | (apply Zbi; exact Zb9 rfl)); exact rfl) | (apply Zac; exact rfl; (apply Zaz; refine Zao (k := 0) (l0 := []) rfl rfl rfl ?_))))
 all_goals (try (exfalso; first | contradiction | omega))
 rotate_left
 · rintro ch loc ⟨e, g2, rfl, rfl⟩; ((repeat (first | (with_reducible refine Zbd ?_) | (with_reducible refine Zbn ?_))); refine Zar (loc' := []) (List.nil_sublist _) ?_); exact ⟨e, hres.symm.trans (Zap g2), rfl, rfl⟩
 rintro pw loc ⟨t2, g2, rfl⟩
 rw [Zal g2] at hres
 (repeat' (first | refine Za3 ?_))
 exact ⟨.inl rfl, ret0 rfl (List.Sublist.refl _) ⟨_, _, hres.symm, rfl⟩⟩
set_option maxHeartbeats 4000000 in
set_option maxRecDepth 100000 in
theorem parts13_any (b : Nat) (ts : List TokD) (en : Nat) (q0 q1 q2 q3 q4 q5 q6 q7 q8 : SP) (hts : ts.length ≤ 70000) : FnP Tryz.prog 84 [ex (.pointer (some ⟨b, 0, none⟩))] [prow b ts en [q0, q1, q2, q3, q4, q5, q6, q7, q8]] (fun _ loc => ∃ K x r, partsP ts = .ok (x, r) ∧ loc = [prow b r en [q0, isl eCrit x.1, isl eItem x.2.1, isl eItem x.2.2.1, isl eTie x.2.2.2.1, isl (eRound K) x.2.2.2.2, q6, q7, q8]]) (fun ch loc => ∃ e, partsP ts = .error e ∧ wrongP en e ch loc) := by
 refine Zc0 Tryz.func84 rfl Tryz.ntmps84 rfl fun w0 F0 out => ?_
 generalize hres : partsP ts = res
 unfold partsP at hres
 have lc := lw_some (Q := TT) wCriterion (tt_w _) (lw_crit (fun _ _ _ => trivial) (fun _ _ => trivial) fun w _ => tt_w w) less_crit
 have li := fun w => lw_some (Q := TT) w (tt_w _) (lw_item (w := w) (fun _ _ _ => trivial) (fun _ _ => trivial) fun w _ => tt_w w) (less_item w)
 have lt := lw_some (Q := TT) wTie (tt_w _) (lw_tie (fun _ _ _ => trivial) (tt_w _) (tt_w _) fun w _ => tt_w w) less_tie
 have hi1 := item13_fn b wBonus
 have hi2 := item13_fn b wMalus
 have k1 := someCrit13_any b ts en [q0, q1, q2, q3, q4, q5, q6, q7, q8] wCriterion hts
 (repeat' (first | (apply Zaq 5; apply Za8; exact WT_mkfval (ps := [ex (.pointer (some ⟨b, 0, none⟩))]) (qs := []) rfl rfl; exact rfl) | (apply Zaq 6; refine Zb7 (.one 0 rfl .nil) Tryz.func147 rfl k1 rfl ?_ ?_) | refine Za7 ?_ | refine Za1 ?_ | (apply Za8; (exact Za2 rfl); exact rfl)))
 all_goals (try (exfalso; first | contradiction | omega))
 rotate_left
 · rintro ch loc ⟨e, g1, rfl, rfl⟩; ((repeat (first | (with_reducible refine Zbd ?_) | (with_reducible refine Zbn ?_))); refine Zar (loc' := []) (List.nil_sublist _) ?_); exact ⟨e, hres.symm.trans (Zap g1), rfl, rfl⟩
 rintro _ loc ⟨cs, t1, g1, rfl, rfl⟩
 rw [Zal g1] at hres
 have h1 := lc.len g1
 have k2 := someItem13_any b t1 en [q0, isl eCrit cs, q2, q3, q4, q5, q6, q7, q8] wBonus (by omega)
 (repeat' (first | (apply Zaq 14; refine Zb7 (.one 0 rfl .nil) Tryz.func149 rfl k2 rfl ?_ ?_) | refine Za7 ?_ | refine Za1 ?_ | refine Za3 ?_ | (apply Za8; (first | exact Za2 rfl | (apply Zam; exact Zad rfl rfl rfl) | (apply Zbi; exact Zb9 rfl)); exact rfl) | (apply Zac; exact rfl; first | (apply Zaf; (refine Zbl Tryz.func150 rfl hi1 rfl ?_; rintro _ _ ⟨rfl, rfl⟩)) | (apply Zaz; refine Zao (k := 0) (l0 := []) rfl rfl rfl ?_))))
 all_goals (try (exfalso; first | contradiction | omega))
 rotate_left
 · rintro ch loc ⟨e, g2, rfl, rfl⟩; ((repeat (first | (with_reducible refine Zbd ?_) | (with_reducible refine Zbn ?_))); refine Zar (loc' := []) (List.nil_sublist _) ?_); exact ⟨e, hres.symm.trans (Zap g2), rfl, rfl⟩
 rintro _ loc ⟨bs, t2, g2, rfl, rfl⟩
 rw [Zal g2] at hres
 have h2 := (li wBonus).len g2
 have k3 := someItem13_any b t2 en [q0, isl eCrit cs, isl eItem bs, q3, q4, q5, q6, q7, q8] wMalus (by omega)
 (repeat' (first | (apply Zaq 22; refine Zb7 (.one 0 rfl .nil) Tryz.func149 rfl k3 rfl ?_ ?_) | refine Za7 ?_ | refine Za1 ?_ | refine Za3 ?_ | (apply Za8; (first | exact Za2 rfl | (apply Zam; exact Zad rfl rfl rfl) | (apply Zbi; exact Zb9 rfl)); exact rfl) | (apply Zac; exact rfl; first | (apply Zaf; (refine Zbl Tryz.func150 rfl hi2 rfl ?_; rintro _ _ ⟨rfl, rfl⟩)) | (apply Zaz; refine Zao (k := 0) (l0 := []) rfl rfl rfl ?_))))
 all_goals (try (exfalso; first | contradiction | omega))
 rotate_left
 · rintro ch loc ⟨e, g3, rfl, rfl⟩; ((repeat (first | (with_reducible refine Zbd ?_) | (with_reducible refine Zbn ?_))); refine Zar (loc' := []) (List.nil_sublist _) ?_); exact ⟨e, hres.symm.trans (Zap g3), rfl, rfl⟩
 rintro _ loc ⟨ms, t3, g3, rfl, rfl⟩
 rw [Zal g3] at hres
 have h3 := (li wMalus).len g3
 have k4 := someTie13_any b t3 en [q0, isl eCrit cs, isl eItem bs, isl eItem ms, q4, q5, q6, q7, q8] wTie (by omega)
 (repeat' (first | (apply Zaq 29; apply Za8; exact WT_mkfval (ps := [ex (.pointer (some ⟨b, 0, none⟩))]) (qs := []) rfl rfl; exact rfl) | (apply Zaq 30; refine Zb7 (.one 0 rfl .nil) Tryz.func151 rfl k4 rfl ?_ ?_) | refine Za7 ?_ | refine Za1 ?_ | refine Za3 ?_ | (apply Za8; (first | exact Za2 rfl | (apply Zam; exact Zad rfl rfl rfl) | (apply Zbi; exact Zb9 rfl)); exact rfl) | (apply Zac; exact rfl; (apply Zaz; refine Zao (k := 0) (l0 := []) rfl rfl rfl ?_))))
 all_goals (try (exfalso; first | contradiction | omega))
 rotate_left
 · rintro ch loc ⟨e, g4, rfl, rfl⟩; ((repeat (first | (with_reducible refine Zbd ?_) | (with_reducible refine Zbn ?_))); refine Zar (loc' := []) (List.nil_sublist _) ?_); exact ⟨e, hres.symm.trans (Zap g4), rfl, rfl⟩
 rintro _ loc ⟨tis, t4, g4, rfl, rfl⟩
 rw [Zal g4] at hres
 have h4 := lt.len g4
 have k5 := someRound13_any b t4 en [q0, isl eCrit cs, isl eItem bs, isl eItem ms, isl eTie tis, q5, q6, q7, q8] wRound (by omega)
 (repeat' (first | (apply Zaq 37; apply Za8; exact WT_mkfval (ps := [ex (.pointer (some ⟨b, 0, none⟩))]) (qs := []) rfl rfl; exact rfl) | (apply Zaq 38; refine Zb7 (.one 0 rfl .nil) Tryz.func153 rfl k5 rfl ?_ ?_) | refine Za1 ?_ | refine Za3 ?_ | (apply Za8; (first | exact Za2 rfl | (apply Zam; exact Zad rfl rfl rfl) | (apply Zbi; exact Zb9 rfl)); exact rfl) | (apply Zac; exact rfl; (apply Zaz; refine Zao (k := 0) (l0 := []) rfl rfl rfl ?_))))
 all_goals (try (exfalso; first | contradiction | omega))
 rotate_left
 · rintro ch loc ⟨e, g5, rfl, rfl⟩; ((repeat (first | (with_reducible refine Zbd ?_) | (with_reducible refine Zbn ?_))); refine Zar (loc' := []) (List.nil_sublist _) ?_); exact ⟨e, hres.symm.trans (Zap g5), rfl, rfl⟩
 rintro _ loc ⟨K, rs, t5, g5, rfl, rfl⟩
 rw [Zal g5] at hres
 (repeat' (first | refine Za3 ?_ | (apply Za8; (first | (apply Zam; exact Zad rfl rfl rfl) | (apply Zbi; exact Zb9 rfl)); exact rfl) | (apply Zac; exact rfl; (apply Zaz; refine Zao (k := 0) (l0 := []) rfl rfl rfl ?_))))
 exact ⟨.inl rfl, ret0 rfl (List.Sublist.refl _) ⟨K, (cs, bs, ms, tis, rs), _, hres.symm, rfl⟩⟩
set_option maxHeartbeats 4000000 in
set_option maxRecDepth 100000 in
theorem prizes13_any (b : Nat) (ts : List TokD) (en : Nat) (q0 q1 q2 q3 q4 q5 q6 q7 q8 : SP) (hts : ts.length ≤ 70000) : FnP Tryz.prog 85 [ex (.pointer (some ⟨b, 0, none⟩))] [prow b ts en [q0, q1, q2, q3, q4, q5, q6, q7, q8]] (fun _ loc => ∃ x r, prizesP ts = .ok (x, r) ∧ loc = [prow b r en (if isT wPrizes ts then [q0, q1, q2, q3, q4, q5, isl eI x, q7, q8] else [q0, q1, q2, q3, q4, q5, q6, q7, q8])]) (fun ch loc => ∃ e, prizesP ts = .error e ∧ wrongP en e ch loc) := by
 refine Zc0 Tryz.func85 rfl Tryz.ntmps85 rfl fun w0 F0 out => ?_
 generalize hres : prizesP ts = res
 have htk := Zc3 b ts en [q0, q1, q2, q3, q4, q5, q6, q7, q8] wPrizes
 cases hT : isT wPrizes ts
 · have hq : prizesP ts = .ok ([], ts) := if_neg (by rw [hT]; simp)
   rw [hq] at hres
   rw [hT, if_neg (by simp)] at htk
   (repeat' (first | refine Za7 ?_ | refine Za1 ?_ | refine Za3 ?_ | (apply Za8; (exact Za2 rfl); exact rfl) | refine Zan ?_ | refine Zb0 rfl ?_ | (apply Zac; exact rfl; (apply Zaf; (refine Zab (.one 0 rfl .nil) Tryz.func155 rfl htk rfl ?_; rintro _ _ ⟨rfl, rfl⟩)))))
   all_goals (try (exfalso; first | contradiction | omega))
   exact ⟨.inl rfl, ret0 rfl (List.Sublist.refl _) ⟨_, _, hres.symm, rfl⟩⟩
 · have hq : prizesP ts = bnd (listP numP) (fun l => bnd (want sSemi) fun _ => ret l) ts.tail := (if_pos hT).trans (Zal (want_yes hT))
   rw [hq] at hres
   rw [hT, if_pos rfl] at htk
   have hl : ts.tail.length ≤ ts.length := by rw [List.length_tail]; omega
   have k1 := listInt13_any b ts.tail en [q0, q1, q2, q3, q4, q5, q6, q7, q8] (by omega)
   (repeat' (first | (apply Zaq 7; apply Za8; exact WT_mkfval (ps := [ex (.pointer (some ⟨b, 0, none⟩))]) (qs := []) rfl rfl; exact rfl) | (apply Zaq 8; refine Zb7 (.one 0 rfl .nil) Tryz.func156 rfl k1 rfl ?_ ?_) | refine Za7 ?_ | refine Za1 ?_ | refine Za3 ?_ | (apply Za8; (exact Za2 rfl); exact rfl) | refine Zaw rfl ?_ | (apply Zac; exact rfl; (apply Zaf; (refine Zab (.one 0 rfl .nil) Tryz.func155 rfl htk rfl ?_; rintro _ _ ⟨rfl, rfl⟩)))))
   all_goals (try (exfalso; first | contradiction | omega))
   rotate_left
   · rintro ch loc ⟨e, g1, rfl, rfl⟩; ((repeat (first | (with_reducible refine Zbd ?_) | (with_reducible refine Zbn ?_))); refine Zar (loc' := []) (List.nil_sublist _) ?_); exact ⟨e, hres.symm.trans (Zap g1), rfl, rfl⟩
   rintro _ loc ⟨x, t1, g1, rfl, rfl⟩
   rw [Zal g1] at hres
   have k2 := Zcs b t1 en [q0, q1, q2, q3, q4, q5, isl eI x, q7, q8] sSemi
   (repeat' (first | (apply Zaq 13; refine Zb7 (.one 0 rfl .nil) Tryz.func146 rfl k2 rfl ?_ ?_) | refine Za1 ?_ | refine Za3 ?_ | (apply Za8; (first | exact Za2 rfl | (apply Zam; exact Zad rfl rfl rfl) | (apply Zbi; exact Zb9 rfl)); exact rfl) | (apply Zac; exact rfl; (apply Zaz; refine Zao (k := 0) (l0 := []) rfl rfl rfl ?_))))
   all_goals (try (exfalso; first | contradiction | omega))
   rotate_left
   · rintro ch loc ⟨e, g2, rfl, rfl⟩; ((repeat (first | (with_reducible refine Zbd ?_) | (with_reducible refine Zbn ?_))); refine Zar (loc' := []) (List.nil_sublist _) ?_); exact ⟨e, hres.symm.trans (Zap g2), rfl, rfl⟩
   rintro pw loc ⟨t2, g2, rfl⟩
   rw [Zal g2] at hres
   (repeat' (first | refine Za3 ?_))
   exact ⟨.inl rfl, ret0 rfl (List.Sublist.refl _) ⟨_, _, hres.symm, rfl⟩⟩
set_option maxHeartbeats 4000000 in
set_option maxRecDepth 100000 in
theorem points13_any (b : Nat) (ts : List TokD) (en : Nat) (q0 q1 q2 q3 q4 q5 q6 q7 q8 : SP) (hts : ts.length ≤ 70000) : FnP Tryz.prog 86 [ex (.pointer (some ⟨b, 0, none⟩))] [prow b ts en [q0, q1, q2, q3, q4, q5, q6, q7, q8]] (fun _ loc => ∃ x r, pointsP ts = .ok (x, r) ∧ loc = [prow b r en (if isT wPoints ts then [q0, q1, q2, q3, q4, q5, q6, isl eI x.1, exI .i64 x.2] else [q0, q1, q2, q3, q4, q5, q6, q7, q8])]) (fun ch loc => ∃ e, pointsP ts = .error e ∧ wrongP en e ch loc) := by
 refine Zc0 Tryz.func86 rfl Tryz.ntmps86 rfl fun w0 F0 out => ?_
 generalize hres : pointsP ts = res
 have htk := Zc3 b ts en [q0, q1, q2, q3, q4, q5, q6, q7, q8] wPoints
 cases hT : isT wPoints ts
 · have hq : pointsP ts = .ok (([], 0), ts) := if_neg (by rw [hT]; simp)
   rw [hq] at hres
   rw [hT, if_neg (by simp)] at htk
   (repeat' (first | refine Za7 ?_ | refine Za1 ?_ | refine Za3 ?_ | (apply Za8; (exact Za2 rfl); exact rfl) | refine Zan ?_ | refine Zb0 rfl ?_ | (apply Zac; exact rfl; (apply Zaf; (refine Zab (.one 0 rfl .nil) Tryz.func155 rfl htk rfl ?_; rintro _ _ ⟨rfl, rfl⟩)))))
   all_goals (try (exfalso; first | contradiction | omega))
   exact ⟨.inl rfl, ret0 rfl (List.Sublist.refl _) ⟨_, _, hres.symm, rfl⟩⟩
 · have hq : pointsP ts = bnd (listP numP) (fun l => bnd (valued wBest) fun n => bnd (want sSemi) fun _ => ret (l, n)) ts.tail := (if_pos hT).trans (Zal (want_yes hT))
   rw [hq] at hres
   rw [hT, if_pos rfl] at htk
   have hl : ts.tail.length ≤ ts.length := by rw [List.length_tail]; omega
   have k1 := listInt13_any b ts.tail en [q0, q1, q2, q3, q4, q5, q6, q7, q8] (by omega)
   (repeat' (first | (apply Zaq 7; apply Za8; exact WT_mkfval (ps := [ex (.pointer (some ⟨b, 0, none⟩))]) (qs := []) rfl rfl; exact rfl) | (apply Zaq 8; refine Zb7 (.one 0 rfl .nil) Tryz.func156 rfl k1 rfl ?_ ?_) | refine Za7 ?_ | refine Za1 ?_ | refine Za3 ?_ | (apply Za8; (exact Za2 rfl); exact rfl) | refine Zaw rfl ?_ | (apply Zac; exact rfl; (apply Zaf; (refine Zab (.one 0 rfl .nil) Tryz.func155 rfl htk rfl ?_; rintro _ _ ⟨rfl, rfl⟩)))))
   all_goals (try (exfalso; first | contradiction | omega))
   rotate_left
   · rintro ch loc ⟨e, g1, rfl, rfl⟩; ((repeat (first | (with_reducible refine Zbd ?_) | (with_reducible refine Zbn ?_))); refine Zar (loc' := []) (List.nil_sublist _) ?_); exact ⟨e, hres.symm.trans (Zap g1), rfl, rfl⟩
   rintro _ loc ⟨x, t1, g1, rfl, rfl⟩
   rw [Zal g1] at hres
   have k3 := number13_any b t1 en [q0, q1, q2, q3, q4, q5, q6, isl eI x, q8] wBest
   (repeat' (first | (apply Zaq 14; refine Zb7 (.one 0 rfl .nil) Tryz.func158 rfl k3 rfl ?_ ?_) | refine Za7 ?_ | refine Za1 ?_ | refine Za3 ?_ | (apply Za8; (first | exact Za2 rfl | (apply Zam; exact Zad rfl rfl rfl) | (apply Zbi; exact Zb9 rfl)); exact rfl) | (apply Zac; exact rfl; (apply Zaz; refine Zao (k := 0) (l0 := []) rfl rfl rfl ?_))))
   all_goals (try (exfalso; first | contradiction | omega))
   rotate_left
   · rintro ch loc ⟨e, g3, rfl, rfl⟩; ((repeat (first | (with_reducible refine Zbd ?_) | (with_reducible refine Zbn ?_))); refine Zar (loc' := []) (List.nil_sublist _) ?_); exact ⟨e, hres.symm.trans (Zap g3), rfl, rfl⟩
   rintro _ loc ⟨n, t3, g3, rfl, rfl⟩
   rw [Zal g3] at hres
   have k2 := Zcs b t3 en [q0, q1, q2, q3, q4, q5, q6, isl eI x, exI .i64 n] sSemi
   (repeat' (first | (apply Zaq 19; refine Zb7 (.one 0 rfl .nil) Tryz.func146 rfl k2 rfl ?_ ?_) | refine Za1 ?_ | refine Za3 ?_ | (apply Za8; (first | exact Za2 rfl | (apply Zam; exact Zad rfl rfl rfl) | (apply Zbi; exact Zb9 rfl)); exact rfl) | (apply Zac; exact rfl; (apply Zaz; refine Zao (k := 0) (l0 := []) rfl rfl rfl ?_))))
   all_goals (try (exfalso; first | contradiction | omega))
   rotate_left
   · rintro ch loc ⟨e, g2, rfl, rfl⟩; ((repeat (first | (with_reducible refine Zbd ?_) | (with_reducible refine Zbn ?_))); refine Zar (loc' := []) (List.nil_sublist _) ?_); exact ⟨e, hres.symm.trans (Zap g2), rfl, rfl⟩
   rintro pw loc ⟨t2, g2, rfl⟩
   rw [Zal g2] at hres
   (repeat' (first | refine Za3 ?_))
   exact ⟨.inl rfl, ret0 rfl (List.Sublist.refl _) ⟨(x, n), _, hres.symm, rfl⟩⟩
end Go.Proofs.YthdldeenpgeemaaGreatDoor
namespace Go.Fr
theorem at_regionD' (id : Nat) {C : Cx} {ops : Array Oper} {dr : Bool} {y : Code} {T : Exit → Act → World → Prop} {env : Env} {loc : List Ent} (h : WPR C (.seq (.region id ops dr) y) T env loc) : WPR C (.seq (.region id ops dr) y) T env loc := h
end Go.Fr
namespace Go.Proofs.YthdldeenpgeemaaGreatDoor
open Go Go.RowKit Go.Kx Go.Fr Go.Lx Go.Sx
abbrev zeroRC : List SP := [exT [], ex (.slice none 0 0), ex (.slice none 0 0), ex (.slice none 0 0), ex (.slice none 0 0), ex (.slice none 0 0), ex (.slice none 0 0), ex (.slice none 0 0), exI .i64 0]
def resR (b0 b1 b2 : Nat) (ps : List SP) (p1 p2 : SP) : List Ent := [row b0 29 9 ps, row b1 3 1 [p1], row b2 30 1 [p2]]
set_option maxHeartbeats 1000000 in
set_option maxRecDepth 100000 in
theorem read1_idle (b0 b1 b2 : Nat) (ps : List SP) (p1 p2 : SP) : FnD Tryz.prog 82 [ex (.pointer (some ⟨b0, 0, none⟩)), ex (.pointer (some ⟨b1, 0, none⟩)), ex (.pointer (some ⟨b2, 0, none⟩))] (resR b0 b1 b2 ps p1 p2) .returning (fun u loc => u = .returning ∧ loc = resR b0 b1 b2 ps p1 p2) := by
 unfold resR
 refine FnD_rec Tryz.func82 rfl Tryz.ntmps82 rec_idle fun w0 F0 out => ?_
 (repeat' (first | refine Za7 ?_ | refine Za1 ?_ | refine Za3 ?_ | (apply Za8; (first | exact Za2 rfl | (apply Zai; exact WT_ifnn rfl rfl)); exact rfl) | refine Zan ?_ | refine Zb0 rfl ?_))
 exact ⟨.inl rfl, ret0 rfl (List.Sublist.refl _) rfl⟩
set_option maxHeartbeats 1000000 in
set_option maxRecDepth 100000 in
theorem read1_panic (b0 b1 b2 : Nat) (p1 p2 : SP) (at_ : Int) : FnD Tryz.prog 82 [ex (.pointer (some ⟨b0, 0, none⟩)), ex (.pointer (some ⟨b1, 0, none⟩)), ex (.pointer (some ⟨b2, 0, none⟩))] (resR b0 b1 b2 zeroRC p1 p2) (.panicking [{ v := .iface 139 (.agg #[.int .i64 at_]), recovered := false }]) (fun u loc => u = .panicking [{ v := .iface 139 (.agg #[.int .i64 at_]), recovered := true }] ∧ loc = resR b0 b1 b2 zeroRC (exI .i64 at_) (exI .i64 130)) := by
 unfold resR
 refine FnD_rec Tryz.func82 rfl Tryz.ntmps82 rec_panic fun w0 F0 out => ?_
 (repeat' (first | (apply Zaq 11; apply Za8; exact WT_assertK rfl rfl; exact rfl) | (apply Zcj 5; refine Stop.out ?_) | refine Za7 ?_ | refine Za1 ?_ | refine Za3 ?_ | (apply Za8; (first | exact Za2 rfl | exact Za5 rfl | exact Zbw rfl rfl | (apply Zai; exact WT_ifnh rfl rfl) | (apply g_un; exact Zcy rfl)); exact rfl) | refine Zan ?_ | refine Zaw rfl ?_ | refine Zb0 rfl ?_ | (apply Zac; exact rfl; first | (apply Zbs; refine Zbh ?_; intro _) | (apply Zaz; refine Zao (k := 0) (l0 := []) rfl rfl rfl ?_))))
 rename_i b4
 refine ⟨?_⟩
 (refine Zdb ([row b4 139 1 [exI .i64 at_]]) 6 rfl ?_)
 all_goals ((apply Za4 0 rfl (by decide +kernel) rfl (by repeat (exact Za6)) Za0; ((apply Zcz; exact Zcg rfl rfl (by repeat (exact PartsO.nil)))); exact rfl))
 all_goals ((apply Za4 1 rfl (by decide +kernel) rfl (by repeat (first | exact Za6)) Za0; (first | (apply Zam; first | exact Zad rfl rfl rfl)); exact rfl))
 all_goals ((apply Zay 2 rfl (by decide +kernel) rfl (by decide +kernel) (by repeat (exact Za6)) Za0; ((apply Za9; exact Zah (k := 0) rfl rfl rfl rfl)); exact rfl))
 all_goals ((apply Zbe 3; exact (by decide +kernel); exact rfl; exact Za0; exact (fun _ _ h => h); (apply Zaz; refine Zao (k := 1) (hH := (by repeat (first | exact List.nil_sublist _ | apply List.Sublist.cons_cons))) rfl rfl rfl ?_)))
 all_goals ((apply Zbe 4; exact (by decide +kernel); exact rfl; exact Za0; exact (fun _ _ h => h); (apply Zaz; refine Zao (k := 2) (hH := (by repeat (first | exact List.nil_sublist _ | apply List.Sublist.cons_cons))) rfl rfl rfl ?_)))
 all_goals ((apply Zbe 5; exact (by decide +kernel); exact rfl; exact Za0; exact (fun _ _ h => h); (apply Zaz; refine Zao (k := 3) (hH := (by repeat (first | exact List.nil_sublist _ | apply List.Sublist.cons_cons))) rfl rfl rfl ?_)))
 all_goals (refine Zbu (by decide +kernel) ?_)
 all_goals ((repeat' (first | fail)))
 exact ⟨.inl rfl, ret0 (loc' := [row b0 29 9 zeroRC, row b1 3 1 [exI .i64 at_], row b2 30 1 [exI .i64 130]]) rfl (by exact .cons _ (.refl _)) rfl⟩
end Go.Proofs.YthdldeenpgeemaaGreatDoor
namespace Go.Sx
open Go.Lx Go.Fr
theorem rest0 (r : RulesD) : restP 0 r = bnd beginP fun nm => restP 1 { r with name := nm } := by rw [restP]
theorem rest1 (r : RulesD) : restP 1 r = bnd partsP fun p => restP 2 { r with crits := p.1, bonus := p.2.1, malus := p.2.2.1, ties := p.2.2.2.1, rounds := p.2.2.2.2 } := by rw [restP]
theorem rest2 (r : RulesD) : restP 2 r = bnd prizesP fun x => restP 3 { r with prizes := x } := by rw [restP]
theorem rest3 (r : RulesD) : restP 3 r = bnd pointsP fun x => restP 4 { r with points := x.1, best := x.2 } := by rw [restP]
theorem rest4 (r : RulesD) : restP 4 r = bnd endP fun _ => ret r := by rw [restP] <;> (intro h; omega)
theorem read_ok {ts : List TokD} {en : Nat} {r : RulesD} {u : List TokD} (h : restP 0 zeroR ts = .ok (r, u)) : readA ts en = (r, 0, 0) := by unfold readA; rw [rules_rest, h]
theorem read_err {ts e : List TokD} {en : Nat} (h : restP 0 zeroR ts = .error e) : readA ts en = (zeroR, placeE en e, 130) := by unfold readA; rw [rules_rest, h]
end Go.Sx
namespace Go.Fr
open Go.RowKit Go.Kx Go.Sx
theorem zero_im : Ims [exT [], ex (.slice none 0 0), ex (.slice none 0 0), ex (.slice none 0 0), ex (.slice none 0 0), ex (.slice none 0 0), ex (.slice none 0 0), ex (.slice none 0 0), exI .i64 0] (rulesV 1 zeroR) :=
 .cons (Im.refl _) (.cons Im.nil (.cons Im.nil (.cons Im.nil (.cons Im.nil (.cons Im.nil (.cons Im.nil (.cons Im.nil (.cons (Im.refl _) .nil))))))))
end Go.Fr
namespace Go.Proofs.YthdldeenpgeemaaGreatDoor
open Go Go.RowKit Go.Kx Go.Fr Go.Lx Go.Sx
def readR (z : RulesD × Int × Int) (p : SP) (loc : List Ent) : Prop := (∃ k, p = tup [agg (rulesV k z.1), exI .i64 z.2.1, exI .i64 z.2.2]) ∧ loc = []
set_option maxHeartbeats 8000000 in
set_option maxRecDepth 100000 in
theorem read13_any (ts : List TokD) (en : Nat) (hts : ts.length ≤ 70000) : FnC Tryz.prog 28 [isl eTok ts, exI .i64 (en : Int)] [] (readR (readA ts en)) := by
 generalize hz : readA ts en = z
 refine FnC_enterD Tryz.func28 rfl Tryz.ntmps28 rfl fun w0 F0 out => ?_
 (repeat' (first | (apply at_regionD' 1; refine Stop.out ?_) | refine WPR_seq ?_ | refine Za1 ?_ | refine Za3 ?_ | (apply Zac; exact rfl; (apply Zbs; refine Zbh ?_; intro _))))
 rename_i b4 b5 b6
 refine ⟨?_⟩
 refine WPR_region ?_
 refine WPLR_t (WT_mkfunc (vs := [.pointer (some ⟨b4, 0, none⟩), .pointer (some ⟨b5, 0, none⟩), .pointer (some ⟨b6, 0, none⟩)]) rfl) rfl ?_
 refine WPLR_deferF rfl ?_ rfl
 refine WPR_of ?_
 (repeat' (first | (apply Zaq 16; apply Za8; exact WT_mkfval (ps := [_]) (qs := []) rfl rfl; exact rfl) | (apply Zaq 18; apply Za8; exact WT_mkfval (ps := [_]) (qs := []) rfl rfl; exact rfl) | (apply Zaq 20; apply Za8; exact WT_mkfval (ps := [_]) (qs := []) rfl rfl; exact rfl) | (apply Zaq 22; apply Za8; exact WT_mkfval (ps := [_]) (qs := []) rfl rfl; exact rfl) | refine Za7 ?_ | refine Za1 ?_ | refine Za3 ?_ | (apply Za8; (first | exact Za2 rfl | exact Za5 rfl | (apply Zba; exact WT_lenv rfl rfl) | (apply Zcz; exact Zcg rfl rfl (by repeat (first | exact PartsO.nil | (apply PartsO.cons; exact rfl; exact inferInstance; exact rfl; exact rfl))))); exact rfl) | refine Zak ?_ | (apply Zac; exact rfl; first | (apply Zdv; refine Zdn rfl ?_; intro _) | (apply Zb6; (refine Zbx rfl (by repeat (first | exact PartsO.nil | (apply PartsO.cons; exact rfl; exact inferInstance; exact rfl; exact rfl))) ?_); intro _))))
 rename_i b7 b23
 refine Zck (fun x : Nat × Nat × RulesD × List TokD => ([(4, ex (.pointer (some ⟨b4, 0, none⟩))), (5, ex (.pointer (some ⟨b5, 0, none⟩))), (6, ex (.pointer (some ⟨b6, 0, none⟩))), (7, ex (.pointer (some ⟨b7, 0, none⟩))), (23, ex (.slice (some ⟨b23, 0, none⟩) 4 4)), (24, exI .i64 4), (25, exI .i64 (x.1 : Int))], [prow b7 x.2.2.2 en (rulesV x.2.1 x.2.2.1), row b23 1 4 [fval (.func 83) [ex (.pointer (some ⟨b7, 0, none⟩))] [], fval (.func 84) [ex (.pointer (some ⟨b7, 0, none⟩))] [], fval (.func 85) [ex (.pointer (some ⟨b7, 0, none⟩))] [], fval (.func 86) [ex (.pointer (some ⟨b7, 0, none⟩))] []], row b6 30 1 [exI .i64 0], row b5 3 1 [exI .i64 0], row b4 29 9 zeroRC])) (fun x => x.1 ≤ 4 ∧ restP 0 zeroR ts = restP x.1 x.2.2.1 x.2.2.2 ∧ x.2.2.2.length ≤ ts.length ∧ (x.1 ≤ 2 → x.2.2.1.prizes = []) ∧ (x.1 ≤ 3 → x.2.2.1.points = [] ∧ x.2.2.1.best = 0)) (fun x => 4 - x.1) (0, 1, zeroR, ts) ?_ ⟨Nat.zero_le _, rfl, Nat.le_refl _, fun _ => rfl, fun _ => ⟨rfl, rfl⟩⟩ fun x hx => ?_
 · refine Leads.trans (Leads_perm (.swap _ _ _)) ?_
   refine Leads.trans (Leads_row_im (k := 0) (b := b7) (T := 143) (tot := 11) (ps := isl eTok ts :: exI .i64 (en : Int) :: zeroRC) (qs := isl eTok ts :: exI .i64 (en : Int) :: rulesV 1 zeroR) rfl (.cons (Im.refl _) (.cons (Im.refl _) zero_im))) ?_
   exact Zaa (by repeat (first | exact Zaj | refine Zae rfl ?_)) (List.Sublist.refl _)
 obtain ⟨i, k, r, t⟩ := x
 obtain ⟨hi, hinv, hle, hp1, hp2⟩ := hx
 simp only at hi hinv hle hp1 hp2 ⊢
 have hpanic : ∀ {env : Env} {e : List TokD}, restP 0 zeroR ts = .error e → Fr.look 4 env = some (ex (.pointer (some ⟨b4, 0, none⟩))) → Fr.look 5 env = some (ex (.pointer (some ⟨b5, 0, none⟩))) → Fr.look 6 env = some (ex (.pointer (some ⟨b6, 0, none⟩))) → ∀ e2 : Ent, rawP (Cx.withD ⟨Tryz.prog, w0, F0, footX [], out, 44, []⟩ ⟨.fn (.func 82) #[.pointer (some ⟨b4, 0, none⟩), .pointer (some ⟨b5, 0, none⟩), .pointer (some ⟨b6, 0, none⟩)], #[]⟩) (retD ⟨Tryz.prog, w0, F0, footX [], out, 44, []⟩ Tryz.f28 (readR z)) (.panic [{ v := .iface 139 (.agg #[.int .i64 (placeE en e)]), recovered := false }]) env [e2, row b6 30 1 [exI .i64 0], row b5 3 1 [exI .i64 0], row b4 29 9 zeroRC] := by
   intro env e he g4 g5 g6 e2
   rw [read_err he] at hz
   subst hz
   refine raw_D (vs := [.pointer (some ⟨b4, 0, none⟩), .pointer (some ⟨b5, 0, none⟩), .pointer (some ⟨b6, 0, none⟩)]) rfl rfl (.one 3 rfl (.one 2 rfl (.one 1 rfl .nil))) Tryz.func82 rfl rfl (read1_panic b4 b5 b6 _ _ _) (.ex (.ex (.ex .nil))) ?_
   rintro u' loc' ⟨rfl, rfl⟩
   refine ⟨rfl, .inr rfl, retw (loc' := []) (ret3 rfl (.cella (k := 0) g4 rfl rfl rfl inferInstance rfl) (.cell1 (k := 1) g5 rfl rfl rfl rfl) (.cell1 (k := 2) g6 rfl rfl rfl rfl) (List.nil_sublist _) ⟨rfl, rfl⟩) (Ims.tup (.cons (Ims.agg zero_im) (.cons (Im.refl _) (.cons (Im.refl _) .nil)))) ⟨⟨1, rfl⟩, rfl⟩⟩
 have l0 : Lw TT beginP := Zav (lw_named (tt_w _) fun _ _ _ => trivial) fun _ => lw_wr _ _
 have l1 : Lw TT partsP := Zav (lw_some _ (tt_w _) (lw_crit (fun _ _ _ => trivial) (fun _ _ => trivial) fun w _ => tt_w w) less_crit) fun _ => Zav (lw_some _ (tt_w _) (lw_item (fun _ _ _ => trivial) (fun _ _ => trivial) fun w _ => tt_w w) (less_item _)) fun _ => Zav (lw_some _ (tt_w _) (lw_item (fun _ _ _ => trivial) (fun _ _ => trivial) fun w _ => tt_w w) (less_item _)) fun _ => Zav (lw_some _ (tt_w _) (lw_tie (fun _ _ _ => trivial) (tt_w _) (tt_w _) fun w _ => tt_w w) less_tie) fun _ => Zav (lw_some _ (tt_w _) lw_roundT less_round) fun _ => Zbt _
 have l2 : Lw TT prizesP := lw_prizes (fun _ _ => trivial) fun w _ => tt_w w
 have l3 : Lw TT pointsP := lw_points (fun _ _ => trivial) fun w _ => tt_w w
 by_cases hlt : i < 4
 · rcases (show i = 0 ∨ i = 1 ∨ i = 2 ∨ i = 3 by omega) with rfl | rfl | rfl | rfl
   · rw [rest0 r] at hinv
     have kk := begin13_any b7 t en (exT r.name) (isl eCrit r.crits) (isl eItem r.bonus) (isl eItem r.malus) (isl eTie r.ties) (isl (eRound k) r.rounds) (isl eI r.prizes) (isl eI r.points) (exI .i64 r.best) (by omega)
     (repeat' (first | (apply Zaq 30; refine WPL_callF (args := []) rfl (.one 0 rfl .nil) Tryz.func83 rfl kk rfl ?_ ?_) | refine Za7 ?_ | refine Za1 ?_ | refine Za3 ?_ | (apply Za8; (first | exact Za2 rfl | exact Za5 rfl | (apply Za9; exact Zah (k := 1) rfl rfl rfl rfl) | (apply Zai; exact Zbg rfl rfl) | (apply Zb3; exact WT_indexo rfl rfl rfl)); exact rfl) | refine Zak ?_ | refine Zan ?_ | refine Zaw rfl ?_))
     all_goals (try (exfalso; first | contradiction | omega))
     rotate_left
     · rintro ch loc ⟨e, g1, rfl, rfl⟩
       exact hpanic (hinv.trans (Zap g1)) rfl rfl rfl _
     rintro pw loc ⟨nm, t1, g1, rfl⟩
     have hl1 := l0.len g1
     rw [Zal g1] at hinv
     (repeat' (first | refine Za1 ?_ | refine Za3 ?_ | (apply Za8; (first | exact Za2 rfl | (apply Zai; first | exact Zbz rfl rfl)); exact rfl)))
     exact ⟨(1, k, { r with name := nm }, t1), ⟨by omega, hinv, by show t1.length ≤ _; omega, fun _ => hp1 (by omega), fun _ => hp2 (by omega)⟩, by show 4 - (0 + 1) < 4 - 0; omega, Zaa (by repeat (first | exact Zaj | refine Zae rfl ?_)) (List.Sublist.refl _)⟩
   · rw [rest1] at hinv
     have kk := parts13_any b7 t en (exT r.name) (isl eCrit r.crits) (isl eItem r.bonus) (isl eItem r.malus) (isl eTie r.ties) (isl (eRound k) r.rounds) (isl eI r.prizes) (isl eI r.points) (exI .i64 r.best) (by omega)
     (repeat' (first | (apply Zaq 30; refine WPL_callF (args := []) rfl (.one 0 rfl .nil) Tryz.func84 rfl kk rfl ?_ ?_) | refine Za7 ?_ | refine Za1 ?_ | refine Za3 ?_ | (apply Za8; (first | exact Za2 rfl | exact Za5 rfl | (apply Za9; exact Zah (k := 1) rfl rfl rfl rfl) | (apply Zai; exact Zbg rfl rfl) | (apply Zb3; exact WT_indexo rfl rfl rfl)); exact rfl) | refine Zak ?_ | refine Zan ?_ | refine Zaw rfl ?_))
     all_goals (try (exfalso; first | contradiction | omega))
     rotate_left
     · rintro ch loc ⟨e, g1, rfl, rfl⟩
       exact hpanic (hinv.trans (Zap g1)) rfl rfl rfl _
     rintro pw loc ⟨K, p, t1, g1, rfl⟩
     have hl1 := l1.len g1
     rw [Zal g1] at hinv
     (repeat' (first | refine Za1 ?_ | refine Za3 ?_ | (apply Za8; (first | exact Za2 rfl | (apply Zai; first | exact Zbz rfl rfl)); exact rfl)))
     exact ⟨(2, K, { r with crits := p.1, bonus := p.2.1, malus := p.2.2.1, ties := p.2.2.2.1, rounds := p.2.2.2.2 }, t1), ⟨by omega, hinv, by show t1.length ≤ _; omega, fun _ => hp1 (by omega), fun _ => hp2 (by omega)⟩, by show 4 - (1 + 1) < 4 - 1; omega, Zaa (by repeat (first | exact Zaj | refine Zae rfl ?_)) (List.Sublist.refl _)⟩
   · rw [rest2] at hinv
     have kk := prizes13_any b7 t en (exT r.name) (isl eCrit r.crits) (isl eItem r.bonus) (isl eItem r.malus) (isl eTie r.ties) (isl (eRound k) r.rounds) (isl eI r.prizes) (isl eI r.points) (exI .i64 r.best) (by omega)
     (repeat' (first | (apply Zaq 30; refine WPL_callF (args := []) rfl (.one 0 rfl .nil) Tryz.func85 rfl kk rfl ?_ ?_) | refine Za7 ?_ | refine Za1 ?_ | refine Za3 ?_ | (apply Za8; (first | exact Za2 rfl | exact Za5 rfl | (apply Za9; exact Zah (k := 1) rfl rfl rfl rfl) | (apply Zai; exact Zbg rfl rfl) | (apply Zb3; exact WT_indexo rfl rfl rfl)); exact rfl) | refine Zak ?_ | refine Zan ?_ | refine Zaw rfl ?_))
     all_goals (try (exfalso; first | contradiction | omega))
     rotate_left
     · rintro ch loc ⟨e, g1, rfl, rfl⟩
       exact hpanic (hinv.trans (Zap g1)) rfl rfl rfl _
     rintro pw loc ⟨x, t1, g1, rfl⟩
     have hl1 := l2.len g1
     rw [Zal g1] at hinv
     cases hT : isT wPrizes t
     · have hq : prizesP t = .ok ([], t) := if_neg (by rw [hT]; simp)
       rw [hq] at g1
       injection g1 with g1; injection g1 with g1 g2; subst g1 g2
       have hr : { r with prizes := [] } = r := by have := hp1 (by omega); cases r; simp only at this; rw [this]
       rw [hr] at hinv
       (repeat' (first | refine Za1 ?_ | refine Za3 ?_ | (apply Za8; (first | exact Za2 rfl | (apply Zai; first | exact Zbz rfl rfl)); exact rfl)))
       exact ⟨(3, k, r, t), ⟨by omega, hinv, hle, fun h => absurd h (by show ¬ 3 ≤ 2; omega), fun _ => hp2 (by omega)⟩, by show 4 - (2 + 1) < 4 - 2; omega, Zaa (by repeat (first | exact Zaj | refine Zae rfl ?_)) (List.Sublist.refl _)⟩
     · (repeat' (first | refine Za1 ?_ | refine Za3 ?_ | (apply Za8; (first | exact Za2 rfl | (apply Zai; first | exact Zbz rfl rfl)); exact rfl)))
       exact ⟨(3, k, { r with prizes := x }, t1), ⟨by omega, hinv, by show t1.length ≤ _; omega, fun h => absurd h (by show ¬ 3 ≤ 2; omega), fun _ => hp2 (by omega)⟩, by show 4 - (2 + 1) < 4 - 2; omega, Zaa (by repeat (first | exact Zaj | refine Zae rfl ?_)) (List.Sublist.refl _)⟩
   · rw [rest3] at hinv
     have kk := points13_any b7 t en (exT r.name) (isl eCrit r.crits) (isl eItem r.bonus) (isl eItem r.malus) (isl eTie r.ties) (isl (eRound k) r.rounds) (isl eI r.prizes) (isl eI r.points) (exI .i64 r.best) (by omega)
     (repeat' (first | (apply Zaq 30; refine WPL_callF (args := []) rfl (.one 0 rfl .nil) Tryz.func86 rfl kk rfl ?_ ?_) | refine Za7 ?_ | refine Za1 ?_ | refine Za3 ?_ | (apply Za8; (first | exact Za2 rfl | exact Za5 rfl | (apply Za9; exact Zah (k := 1) rfl rfl rfl rfl) | (apply Zai; exact Zbg rfl rfl) | (apply Zb3; exact WT_indexo rfl rfl rfl)); exact rfl) | refine Zak ?_ | refine Zan ?_ | refine Zaw rfl ?_))
     all_goals (try (exfalso; first | contradiction | omega))
     rotate_left
     · rintro ch loc ⟨e, g1, rfl, rfl⟩
       exact hpanic (hinv.trans (Zap g1)) rfl rfl rfl _
     rintro pw loc ⟨x, t1, g1, rfl⟩
     have hl1 := l3.len g1
     rw [Zal g1] at hinv
     cases hT : isT wPoints t
     · have hq : pointsP t = .ok (([], 0), t) := if_neg (by rw [hT]; simp)
       rw [hq] at g1
       injection g1 with g1; injection g1 with g1 g2; subst g1 g2
       have hr : { r with points := [], best := 0 } = r := by have := hp2 (by omega); cases r; simp only at this; rw [this.1, this.2]
       rw [hr] at hinv
       (repeat' (first | refine Za1 ?_ | refine Za3 ?_ | (apply Za8; (first | exact Za2 rfl | (apply Zai; first | exact Zbz rfl rfl)); exact rfl)))
       exact ⟨(4, k, r, t), ⟨by omega, hinv, hle, fun h => absurd h (by show ¬ 4 ≤ 2; omega), fun h => absurd h (by show ¬ 4 ≤ 3; omega)⟩, by show 4 - (3 + 1) < 4 - 3; omega, Zaa (by repeat (first | exact Zaj | refine Zae rfl ?_)) (List.Sublist.refl _)⟩
     · (repeat' (first | refine Za1 ?_ | refine Za3 ?_ | (apply Za8; (first | exact Za2 rfl | (apply Zai; first | exact Zbz rfl rfl)); exact rfl)))
       exact ⟨(4, k, { r with points := x.1, best := x.2 }, t1), ⟨by omega, hinv, by show t1.length ≤ _; omega, fun h => absurd h (by show ¬ 4 ≤ 2; omega), fun h => absurd h (by show ¬ 4 ≤ 3; omega)⟩, by show 4 - (3 + 1) < 4 - 3; omega, Zaa (by repeat (first | exact Zaj | refine Zae rfl ?_)) (List.Sublist.refl _)⟩
 · obtain rfl : i = 4 := by omega
   rw [rest4] at hinv
   have kf := fail13_any b7 t en (rulesV k r)
   cases t with
   | cons u v =>
     have hl : (u :: v).length = v.length + 1 := rfl
     have he : bnd endP (fun _ => ret r) (u :: v) = .error (u :: v) := Zap (if_neg (by simp))
     (repeat' (first | (apply Zaq 39; refine Zb7 (.one 0 rfl .nil) Tryz.func87 rfl kf rfl ?_ ?_) | refine Za7 ?_ | refine Za1 ?_ | refine Za3 ?_ | (apply Za8; (first | exact Za2 rfl | (apply Za9; exact Zah (k := 0) rfl rfl rfl rfl) | (apply Zam; exact Zad rfl rfl rfl) | (apply Zai; first | exact Zbg rfl rfl | exact Zcu rfl rfl) | (apply Zba; exact Zbq rfl rfl) | (apply Zbi; exact Zb9 rfl)); exact rfl) | refine Zcf ?_ | refine Zb0 rfl ?_ | (refine Zag rfl (fun hb => ?_) (fun hb => ?_) <;> (repeat (first | replace hb := Zas hb | replace hb := Zat hb)) <;> (try (exfalso; omega)))))
     all_goals (try (exfalso; first | contradiction | omega))
     · rintro _ _ h; exact h.elim
     · rintro ch loc ⟨rfl, rfl⟩
       exact hpanic (hinv.trans he) rfl rfl rfl _
   | nil =>
     have he : bnd endP (fun _ => ret r) ([] : List TokD) = .ok (r, []) := rfl
     rw [read_ok (hinv.trans he)] at hz
     subst hz
     (repeat' (first | refine Za7 ?_ | refine Za1 ?_ | refine Za3 ?_ | (apply Za8; (first | exact Za2 rfl | (apply Za9; first | exact Zah (k := 0) rfl rfl rfl rfl | exact Zbm (k := 0) rfl rfl rfl) | (apply Zam; exact Zad rfl rfl rfl) | (apply Zai; first | exact Zbg rfl rfl | exact Zcu rfl rfl) | (apply Zba; exact Zbq rfl rfl) | (apply Zbi; exact Zb9 rfl)); exact rfl) | refine Zan ?_ | refine Zb2 ?_ | refine Zcf ?_ | refine Zb0 rfl ?_ | (apply Zac; exact rfl; (apply Zaz; first | refine Zao (k := 2) (l0 := []) rfl rfl rfl ?_ | refine Zao (k := 3) (l0 := []) rfl rfl rfl ?_ | refine Zao (k := 4) (l0 := []) rfl rfl rfl ?_))))
     all_goals (try (exfalso; first | contradiction | omega))
     refine raw_D (vs := [.pointer (some ⟨b4, 0, none⟩), .pointer (some ⟨b5, 0, none⟩), .pointer (some ⟨b6, 0, none⟩)]) rfl rfl (.one 4 rfl (.one 3 rfl (.one 2 rfl .nil))) Tryz.func82 rfl rfl (read1_idle b4 b5 b6 (rulesV k r) (exI .i64 0) (exI .i64 0)) (.ex (.ex (.ex .nil))) ?_
     rintro u' loc' ⟨rfl, rfl⟩
     exact ⟨rfl, .inr rfl, ret3 rfl (.cella (k := 0) rfl rfl rfl rfl inferInstance rfl) (.cell1 (k := 1) rfl rfl rfl rfl rfl) (.cell1 (k := 2) rfl rfl rfl rfl rfl) (List.nil_sublist _) ⟨⟨k, rfl⟩, rfl⟩⟩
end Go.Proofs.YthdldeenpgeemaaGreatDoor
namespace Go.Lx
theorem word_ne' {t : TokD} (h : validB t = true) : word t ≠ [] := by
 obtain ⟨c, w, h1, _⟩ := word_step h (b := []) (fun d r e => by cases e)
 rw [h1]; simp
theorem lex_cnt {p : Nat} {s : List UInt8} {l : List TokD} (h : lexF p s = .ok l) : l.length ≤ s.length := by
 have h1 := lex_len p s l h
 have h2 := lex_valid p s l h
 have key : ∀ m : List TokD, (∀ t ∈ m, validB t = true) → m.length ≤ (m.map fun t => (word t).length).sum := by
   intro m
   induction m with
   | nil => intro _; exact Nat.zero_le _
   | cons t m ih =>
     intro hm
     have a := ih fun x hx => hm x (List.mem_cons_of_mem _ hx)
     have b := List.length_pos_iff.2 (word_ne' (hm t (by simp)))
     simp only [List.length_cons, List.map_cons, List.sum_cons]
     omega
 exact Nat.le_trans (key l h2) h1
end Go.Lx
namespace Go.Proofs.YthdldeenpgeemaaGreatDoor
open Go Go.RowKit Go.Kx Go.Fr Go.Lx Go.Sx
set_option maxHeartbeats 4000000 in
set_option maxRecDepth 100000 in
theorem parse13_any (s : List UInt8) : FnC Tryz.prog 11 [exT s] [Lab] (readR (parseA s)) := by
 have hlx := lex3_any s
 unfold lexV at hlx
 by_cases hmx : 65536 < s.length
 · have h1 : lexA s = ([], 0, 2) := if_pos hmx
   have h2 : parseA s = (zeroR, 0, 2) := if_pos hmx
   rw [h1] at hlx
   rw [h2]
   dsimp only at hlx
   refine Zbr Tryz.func11 rfl Tryz.ntmps11 rfl fun w0 F0 out => ?_
   (repeat' (first | refine Za7 ?_ | refine Za1 ?_ | refine Za3 ?_ | (apply Za8; (first | exact Za2 rfl | exact Za5 rfl | exact Zbw rfl rfl | (apply Zai; exact Zca rfl rfl) | (apply Zcz; exact Zcg rfl rfl (by repeat (exact PartsO.nil)))); exact rfl) | refine Zb2 ?_ | refine Zaw rfl ?_ | (apply Zac; exact rfl; first | (apply Zaf; (refine Zab (.dup 1 rfl rfl .nil) Tryz.func17 rfl hlx rfl ?_; rintro _ _ ⟨rfl, rfl⟩)) | (apply Zbs; refine Zbh ?_; intro _) | (apply Zaz; refine Zao (k := 0) (l0 := []) rfl rfl rfl ?_))))
   all_goals (try (exfalso; first | contradiction | omega))
   exact ⟨.inr rfl, retw (loc' := []) (ret3 rfl (.cella (k := 0) rfl rfl rfl rfl inferInstance rfl) (.tmp rfl) (.tmp rfl) (List.nil_sublist _) ⟨rfl, rfl⟩) (Ims.tup (.cons (Ims.agg zero_im) (.cons (Im.refl _) (.cons (Im.refl _) .nil)))) ⟨⟨1, rfl⟩, rfl⟩⟩
 rcases lexA_cases s (by omega) with ⟨l, h0, h1⟩ | ⟨p, h0, h1⟩
 · have h2 : parseA s = readA l s.length := by unfold parseA; rw [if_neg hmx, h0]
   rw [h1] at hlx
   rw [h2]
   dsimp only at hlx
   have hcnt := lex_cnt h0
   have hrd := read13_any l s.length (by omega)
   generalize readA l s.length = z at hrd
   refine Zbr Tryz.func11 rfl Tryz.ntmps11 rfl fun w0 F0 out => ?_
   (repeat' (first | refine Za7 ?_ | refine Za1 ?_ | refine Za3 ?_ | (apply Za8; (first | exact Za2 rfl | exact Za5 rfl | exact Zbw rfl rfl | (apply Zai; exact Zca rfl rfl) | (apply Zba; exact Zcr rfl rfl)); exact rfl) | refine Zan ?_ | refine Zb2 ?_ | refine Zb0 rfl ?_ | (apply Zac; exact rfl; first | (apply Zaf; first | (refine Zab (.dup 1 rfl rfl .nil) Tryz.func17 rfl hlx rfl ?_; rintro _ _ ⟨rfl, rfl⟩) | (refine Zbl Tryz.func28 rfl hrd rfl ?_; rintro _ _ ⟨⟨k, rfl⟩, rfl⟩)) | (apply Zbs; refine Zbh ?_; intro _) | (apply Zaz; refine Zao (k := 0) (l0 := []) rfl rfl rfl ?_))))
   all_goals (try (exfalso; first | contradiction | omega))
   exact ⟨.inr rfl, ret3 rfl (.cella (k := 0) rfl rfl rfl rfl inferInstance rfl) (.tmp rfl) (.tmp rfl) (List.nil_sublist _) ⟨⟨k, rfl⟩, rfl⟩⟩
 · have h2 : parseA s = (zeroR, (p : Int), 30) := by unfold parseA; rw [if_neg hmx, h0]
   rw [h1] at hlx
   rw [h2]
   dsimp only at hlx
   refine Zbr Tryz.func11 rfl Tryz.ntmps11 rfl fun w0 F0 out => ?_
   (repeat' (first | refine Za7 ?_ | refine Za1 ?_ | refine Za3 ?_ | (apply Za8; (first | exact Za2 rfl | exact Za5 rfl | exact Zbw rfl rfl | (apply Zai; exact Zca rfl rfl) | (apply Zcz; exact Zcg rfl rfl (by repeat (exact PartsO.nil)))); exact rfl) | refine Zb2 ?_ | refine Zaw rfl ?_ | (apply Zac; exact rfl; first | (apply Zaf; (refine Zab (.dup 1 rfl rfl .nil) Tryz.func17 rfl hlx rfl ?_; rintro _ _ ⟨rfl, rfl⟩)) | (apply Zbs; refine Zbh ?_; intro _) | (apply Zaz; refine Zao (k := 0) (l0 := []) rfl rfl rfl ?_))))
   all_goals (try (exfalso; first | contradiction | omega))
   exact ⟨.inr rfl, retw (loc' := []) (ret3 rfl (.cella (k := 0) rfl rfl rfl rfl inferInstance rfl) (.tmp rfl) (.tmp rfl) (List.nil_sublist _) ⟨rfl, rfl⟩) (Ims.tup (.cons (Ims.agg zero_im) (.cons (Im.refl _) (.cons (Im.refl _) .nil)))) ⟨⟨1, rfl⟩, rfl⟩⟩
end Go.Proofs.YthdldeenpgeemaaGreatDoor
