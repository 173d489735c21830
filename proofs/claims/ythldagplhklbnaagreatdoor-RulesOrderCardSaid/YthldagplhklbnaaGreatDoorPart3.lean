/- IndexByte; the classes of bytes; names. The first two contracts were laid by the shelf's tool. -/
import Derived.Test.YthldagplhklbnaaGreatDoorRows
import Derived.Test.YthldagplhklbnaaGreatDoorPart2
import Derived.Test.YthldagplhklbnaaGreatDoorProg
import Derived.Test.YthldagplhklbnaaGreatDoorCards
import Derived.Test.YthldagplhklbnaaGreatDoorTie
import Derived.Lib.Strings
import Derived.Lib.Walk
import Derived.Lib.Bytealg
import Derived.Shelf.Strings.Fields
import Derived.ProofKit
import Derived.LaidLaws
namespace Go.Proofs.YthldagplhklbnaaGreatDoor
open Go Go.RowKit Go.Kx Go.Fr
set_option maxHeartbeats 1000000 in
set_option maxRecDepth 100000 in
theorem slIndexByte (s : ByteArray) (c : Int) (w : World) :
   Calls Tryz.prog 117 #[.string s, .int .u8 c] w fun e w' => e = .returned (.int .i64 (Lib.indexByte s.data.toList c.toNat.toUInt8)) ∧ w' = w := by
 go_enter Tryz.func117, Tryz.ntmps117
 go_wp2
 rw [run_callFunc_extern Tryz.func119 (by kernel_rfl) (by kernel_rfl) (by kernel_rfl) (e := Extern.BytealgIndexByte.indexByte) (by kernel_rfl), Lib.run_indexByteString]
 simp only [Result.andThen]
 rw [Oper.upon_value]
 go_wp2
 go_ret
 exact ⟨rfl, rfl⟩
theorem indexByte_fr (l : List UInt8) (c : UInt8) : FnC Tryz.prog 117 [exT l, exI .u8 c.toNat] [] (fun p loc => p = exI .i64 (Lib.indexByte l c) ∧ loc = []) := by
 refine FnC_of fun F w vals h => ?_
 obtain ⟨v, u, rfl, rfl, rfl⟩ := h.two
 refine (slIndexByte ⟨l.toArray⟩ c.toNat w).mono ?_
 rintro e w' ⟨rfl, rfl⟩
 refine ⟨_, _, rfl, ⟨rfl, rfl⟩, ?_, Below.refl _ _⟩
 show Value.int .i64 _ = Value.int .i64 _
 congr 2
 · rw [Int.toNat_natCast]; exact UInt8.ofNat_toNat
set_option maxRecDepth 100000 in
theorem indexByteS_any (l : List UInt8) (c : UInt8) : FnC Tryz.prog 113 [exT l, exI .u8 c.toNat] [] (fun p loc => p = exI .i64 (Lib.indexByte l c) ∧ loc = []) := by
 refine Zb7 Tryz.func113 rfl Tryz.ntmps113 rfl fun w0 F0 out => ?_
 have hI := indexByte_fr l c
 (repeat' (first | refine Za8 ?_ | refine Za1 ?_ | refine Za6 ?_ | (apply Za9; (first | exact Za3 rfl | exact Za4 rfl); exact rfl) | refine Zaq ?_ | (apply Zaj; exact rfl; (apply Zao; (refine Zaw Tryz.func117 rfl hI rfl ?_; rintro _ _ ⟨rfl, rfl⟩)))))
 exact ⟨.inr rfl, ret1 rfl (.tmp rfl) (List.nil_sublist _) ⟨rfl, rfl⟩⟩
def letterF (c : UInt8) : Bool := (decide (97 ≤ c.toNat) && decide (c.toNat ≤ 122)) || (decide (65 ≤ c.toNat) && decide (c.toNat ≤ 90))
def figureF (c : UInt8) : Bool := decide (48 ≤ c.toNat) && decide (c.toNat ≤ 57)
def spaceF (c : UInt8) : Bool := decide (c.toNat = 32) || decide (c.toNat = 9) || decide (c.toNat = 10) || decide (c.toNat = 13)
def signs : List UInt8 := [123, 125, 40, 41, 59, 44, 61, 58, 46, 60, 62, 33, 43, 45, 42, 47]
def classF (c : UInt8) : Int := if letterF c then 2 else if figureF c then 3 else if c.toNat = 95 then 5 else if spaceF c then 1 else if 0 ≤ Lib.indexByte signs c then 4 else 0
def partF (c : UInt8) : Bool := letterF c || figureF c || decide (c.toNat = 95)
set_option maxHeartbeats 1000000 in
set_option maxRecDepth 100000 in
theorem class_any (c : UInt8) : FnC Tryz.prog 107 [exI .u8 c.toNat] [] (fun p loc => p = exI .i64 (classF c) ∧ loc = []) := by
 refine Zb7 Tryz.func107 rfl Tryz.ntmps107 rfl fun w0 F0 out => ?_
 have hI := indexByteS_any signs c
 (repeat' (first | refine Za8 ?_ | refine Za1 ?_ | refine Za6 ?_ | (apply Za9; (first | exact Za3 rfl | exact Za4 rfl | exact Zas (b := true) rfl (fun _ => rfl) (fun e => by cases e) | exact Zas (b := false) rfl (fun e => by cases e) (fun _ => rfl) | (apply Zah; first | exact Zcd rfl rfl | exact Zcp rfl rfl)); exact rfl) | (refine Zbq rfl rfl rfl rfl rfl ?_) | (refine WPL_offu rfl rfl rfl rfl ?_) | (apply Zbt; exact rfl; exact rfl; exact rfl; (first | exact Za3 rfl | exact Zas (b := true) rfl (fun _ => rfl) (fun e => by cases e) | exact Zas (b := false) rfl (fun e => by cases e) (fun _ => rfl) | (apply Zah; first | exact Zcd rfl rfl | exact WT_leq rfl rfl | exact Zcp rfl rfl)); exact rfl) | refine Zaa ?_ | refine Zag ?_ | refine Zaq ?_ | refine Zb4 rfl ?_ | refine Zb8 rfl ?_ | (apply Zaj; exact rfl; (apply Zao; (refine Zaw Tryz.func113 rfl hI rfl ?_; rintro _ _ ⟨rfl, rfl⟩))) | (refine Zbm rfl rfl (fun hb => ?_) (fun hb => ?_) <;> (repeat (first | replace hb := Zam hb | replace hb := Zan hb)) <;> (try (exfalso; omega))) | (refine Zac rfl (fun hb => ?_) (fun hb => ?_) <;> (repeat (first | replace hb := Zam hb | replace hb := Zan hb)) <;> (try (exfalso; omega)))))
 all_goals (refine ⟨by first | exact .inr rfl | exact .inl rfl, ret1 rfl (.tmp rfl) (List.nil_sublist _) ⟨congrArg (exI .i64) ?_, rfl⟩⟩)
 all_goals (unfold classF letterF figureF spaceF; simp [*])
 all_goals omega
theorem class_letter (c : UInt8) : classF c = 2 ↔ letterF c = true := by
 unfold classF
 split
 · rename_i h; simp [h]
 · rename_i h
   constructor
   · intro e; repeat' split at e
     all_goals simp at e
   · intro e; exact absurd e h
theorem class_part (c : UInt8) : (classF c = 2 ∨ classF c = 3 ∨ classF c = 5) ↔ partF c = true := by
 unfold classF partF
 cases h1 : letterF c <;> cases h2 : figureF c <;> by_cases h3 : c.toNat = 95 <;> simp [h3]
 · repeat' split
   all_goals simp
set_option maxRecDepth 100000 in
theorem letter_any (c : UInt8) : FnC Tryz.prog 110 [exI .u8 c.toNat] [] (fun p loc => p = exB (letterF c) ∧ loc = []) := by
 refine Zb7 Tryz.func110 rfl Tryz.ntmps110 rfl fun w0 F0 out => ?_
 (repeat' (first | refine Za8 ?_ | refine Za1 ?_ | refine Za6 ?_ | (apply Za9; (first | exact Za3 rfl | exact Za4 rfl | exact Zas (b := true) rfl (fun _ => rfl) (fun e => by cases e) | exact Zas (b := false) rfl (fun e => by cases e) (fun _ => rfl) | (apply Zah; exact Zcp rfl rfl)); exact rfl) | (refine Zbq rfl rfl rfl rfl rfl ?_) | (refine WPL_offu rfl rfl rfl rfl ?_) | (apply Zbt; exact rfl; exact rfl; exact rfl; (first | exact Za3 rfl | exact Zas (b := true) rfl (fun _ => rfl) (fun e => by cases e) | exact Zas (b := false) rfl (fun e => by cases e) (fun _ => rfl) | (apply Zah; first | exact WT_leq rfl rfl | exact Zcp rfl rfl)); exact rfl) | refine Zaq ?_ | (refine Zbm rfl rfl (fun hb => ?_) (fun hb => ?_) <;> (repeat (first | replace hb := Zam hb | replace hb := Zan hb)) <;> (try (exfalso; omega)))))
 all_goals (refine ⟨.inr rfl, ret1 rfl (.tmp rfl) (List.nil_sublist _) ⟨congrArg exB ?_, rfl⟩⟩)
 all_goals (unfold letterF)
 all_goals (rw [Bool.eq_iff_iff]; simp only [Bool.or_eq_true, Bool.and_eq_true, decide_eq_true_eq, Bool.false_eq_true, true_iff, false_iff]; omega)
set_option maxRecDepth 100000 in
theorem figure_any (c : UInt8) : FnC Tryz.prog 116 [exI .u8 c.toNat] [] (fun p loc => p = exB (figureF c) ∧ loc = []) := by
 refine Zb7 Tryz.func116 rfl Tryz.ntmps116 rfl fun w0 F0 out => ?_
 (repeat' (first | refine Za8 ?_ | refine Za1 ?_ | refine Za6 ?_ | (apply Za9; (first | exact Za3 rfl | exact Za4 rfl | exact Zas (b := true) rfl (fun _ => rfl) (fun e => by cases e) | exact Zas (b := false) rfl (fun e => by cases e) (fun _ => rfl) | (apply Zah; exact Zcp rfl rfl)); exact rfl) | (refine Zbq rfl rfl rfl rfl rfl ?_) | (apply Zbt; exact rfl; exact rfl; exact rfl; (first | exact Za3 rfl | (apply Zah; exact WT_leq rfl rfl)); exact rfl) | refine Zaq ?_ | (refine Zbm rfl rfl (fun hb => ?_) (fun hb => ?_) <;> (repeat (first | replace hb := Zam hb | replace hb := Zan hb)) <;> (try (exfalso; fail)))))
 all_goals (refine ⟨.inr rfl, ret1 rfl (.tmp rfl) (List.nil_sublist _) ⟨congrArg exB ?_, rfl⟩⟩)
 all_goals (unfold figureF)
 all_goals (rw [Bool.eq_iff_iff]; simp only [Bool.and_eq_true, decide_eq_true_eq, Bool.false_eq_true, false_iff]; omega)
set_option maxRecDepth 100000 in
theorem part_any (c : UInt8) : FnC Tryz.prog 111 [exI .u8 c.toNat] [] (fun p loc => p = exB (partF c) ∧ loc = []) := by
 refine Zb7 Tryz.func111 rfl Tryz.ntmps111 rfl fun w0 F0 out => ?_
 (repeat' (first | refine Za8 ?_ | refine Za1 ?_ | refine Za6 ?_ | (apply Za9; (first | exact Za3 rfl | exact Za4 rfl | exact Zas (b := true) rfl (fun _ => rfl) (fun e => by cases e) | exact Zas (b := false) rfl (fun e => by cases e) (fun _ => rfl)); exact rfl) | (refine Zbq rfl rfl rfl rfl rfl ?_) | (apply Zbt; exact rfl; exact rfl; exact rfl; (first | exact Za3 rfl | (apply Zah; exact Zcd rfl rfl)); exact rfl) | refine Zaq ?_ | (apply Zaj; exact rfl; (apply Zao; (refine Zaw Tryz.func110 rfl (letter_any _) rfl ?_; rintro _ _ ⟨rfl, rfl⟩))) | (apply Zc8; exact rfl; exact rfl; exact rfl; exact rfl; (apply Zao; (refine Zaw Tryz.func116 rfl (figure_any _) rfl ?_; rintro _ _ ⟨rfl, rfl⟩))) | (refine Zbm rfl rfl (fun hb => ?_) (fun hb => ?_) <;> (repeat (fail)) <;> (try (exfalso; fail)))))
 all_goals (refine ⟨.inr rfl, ret1 rfl (.tmp rfl) (List.nil_sublist _) ⟨congrArg exB ?_, rfl⟩⟩)
 all_goals (unfold partF; simp only [*, Bool.true_or, Bool.false_or, Bool.or_true] <;> first | rfl | exact decide_eq_decide.2 (by omega) | (rw [Bool.eq_iff_iff]; simp only [decide_eq_true_eq]; try omega))
def nameF (s : List UInt8) : Bool := decide (1 ≤ s.length) && (decide (s.length ≤ 32) && (letterF (s[0]?.getD 0) && s.all partF))
set_option maxHeartbeats 1000000 in
set_option maxRecDepth 100000 in
theorem r3name_any (s : List UInt8) : FnC Tryz.prog 99 [exT s] [] (fun p loc => p = exB (nameF s) ∧ loc = []) := by
 refine Zb7 Tryz.func99 rfl Tryz.ntmps99 rfl fun w0 F0 out => ?_
 by_cases h0 : 1 ≤ s.length ∧ s.length ≤ 32 ∧ letterF (s[0]?.getD 0) = true
 · obtain ⟨h1, h2, h3⟩ := h0
   have h3' : letterF (s[0]'(by omega)) = true := by rw [List.getElem?_eq_getElem (by omega)] at h3; exact h3
   (repeat' (first | refine Za8 ?_ | refine Za1 ?_ | refine Za6 ?_ | (apply Za9; (first | exact Za3 rfl | exact Za4 rfl | exact Zas (b := false) rfl (fun e => by cases e) (fun _ => rfl) | (apply Zah; exact Zau rfl rfl) | (apply Zax; exact WT_lent rfl rfl)); exact rfl) | (apply Zbt; exact rfl; exact rfl; exact rfl; (first | exact Za3 rfl | (apply Zah; exact Zcc rfl rfl) | (apply Zax; exact WT_lent rfl rfl) | (apply g_un; exact Zbg rfl) | (apply g_idxt; exact WT_idxt rfl rfl rfl)); exact rfl) | refine Zaa ?_ | refine Zag ?_ | refine Zaq ?_ | (apply Zc8; exact rfl; exact rfl; exact rfl; exact rfl; (apply Zao; (refine Zaw Tryz.func110 rfl (letter_any _) rfl ?_; rintro _ _ ⟨rfl, rfl⟩))) | (refine Zbm rfl rfl (fun hb => ?_) (fun hb => ?_) <;> (repeat (first | replace hb := Zam hb | replace hb := Zan hb)) <;> (try (exfalso; omega))) | (refine Zac rfl (fun hb => ?_) (fun hb => ?_) <;> (repeat (first | replace hb := Zbr hb | replace hb := Zbs hb)) <;> (try (exfalso; fail)))))
   all_goals (try (exfalso; first | omega | (simp_all; done)))
   refine Zbv (fun k : Nat => ([(0, exT s), (3, exI .i64 k)], [])) (fun k => k ≤ s.length ∧ (s.take k).all partF = true) (fun k => s.length - k) 0 ?_ ⟨Nat.zero_le _, rfl⟩ fun k hk => ?_
   · exact Zae (by repeat (first | exact Zai | refine Zad rfl ?_)) (List.Sublist.refl _)
   obtain ⟨hk, hall⟩ := hk
   by_cases hlt : k < s.length
   · cases hp : partF s[k]
     · (repeat' (first | refine Za8 ?_ | refine Za1 ?_ | refine Za6 ?_ | (apply Za9; (first | exact Za3 rfl | exact Za4 rfl | (apply Zah; first | exact Zau rfl rfl | exact Zbf rfl rfl) | (apply Zax; exact WT_lent rfl rfl) | (apply g_un; exact Zbg rfl) | (apply g_idxt; exact WT_idxt rfl rfl rfl)); exact rfl) | refine Zaa ?_ | refine Zag ?_ | refine Zaq ?_ | (apply Zaj; exact rfl; (apply Zao; (refine Zaw Tryz.func111 rfl (part_any _) rfl ?_; rintro _ _ ⟨rfl, rfl⟩))) | (refine Zac rfl (fun hb => ?_) (fun hb => ?_) <;> (repeat (first | replace hb := Zam hb | replace hb := Zan hb | replace hb := Zbr hb | replace hb := Zbs hb)) <;> (try (exfalso; omega)))))
       all_goals (try (exfalso; simp_all; done))
       refine ⟨.inr rfl, ret1 rfl (.tmp rfl) (List.nil_sublist _) ⟨congrArg exB ?_, rfl⟩⟩
       have hn : s.all partF = false := by rw [List.all_eq_false]; exact ⟨_, List.getElem_mem hlt, by simp [hp]⟩
       unfold nameF
       rw [hn]; simp
     · (repeat' (first | refine Za8 ?_ | refine Za1 ?_ | refine Za6 ?_ | (apply Za9; (first | exact Za3 rfl | exact Za4 rfl | (apply Zah; first | exact Zau rfl rfl | exact Zbf rfl rfl) | (apply Zax; exact WT_lent rfl rfl) | (apply g_un; exact Zbg rfl) | (apply g_idxt; exact WT_idxt rfl rfl rfl)); exact rfl) | refine Zaa ?_ | refine Zag ?_ | refine Zaq ?_ | (apply Zaj; exact rfl; (apply Zao; (refine Zaw Tryz.func111 rfl (part_any _) rfl ?_; rintro _ _ ⟨rfl, rfl⟩))) | (refine Zac rfl (fun hb => ?_) (fun hb => ?_) <;> (repeat (first | replace hb := Zam hb | replace hb := Zan hb | replace hb := Zbr hb | replace hb := Zbs hb)) <;> (try (exfalso; omega)))))
       all_goals (try (exfalso; simp_all; done))
       exact ⟨k + 1, ⟨by omega, by rw [List.take_succ_eq_append_getElem hlt, List.all_append, hall]; simp [hp]⟩, by omega, Zae (by repeat (first | exact Zai | refine Zad rfl ?_)) (List.Sublist.refl _)⟩
   · have hk9 : k = s.length := by omega
     subst hk9
     rw [List.take_length] at hall
     (repeat' (first | refine Za8 ?_ | refine Za1 ?_ | refine Za6 ?_ | (apply Za9; (first | exact Za3 rfl | exact Za4 rfl | (apply Zah; exact Zau rfl rfl) | (apply Zax; exact WT_lent rfl rfl)); exact rfl) | refine Zaq ?_ | refine Zbk ?_ | (refine Zac rfl (fun hb => ?_) (fun hb => ?_) <;> (repeat (first | replace hb := Zam hb | replace hb := Zan hb)) <;> (try (exfalso; omega)))))
     all_goals (refine ⟨.inr rfl, ret1 rfl (.tmp rfl) (List.nil_sublist _) ⟨congrArg exB ?_, rfl⟩⟩)
     all_goals (unfold nameF; simp [*])
 · have hn : nameF s = false := by
     cases e : nameF s
     · rfl
     · unfold nameF at e
       simp only [Bool.and_eq_true, decide_eq_true_eq] at e
       exact absurd ⟨e.1, e.2.1, e.2.2.1⟩ h0
   rw [hn]
   (repeat' (first | refine Za8 ?_ | refine Za1 ?_ | refine Za6 ?_ | (apply Za9; (first | exact Za3 rfl | exact Za4 rfl | exact Zas (b := true) rfl (fun _ => rfl) (fun e => by cases e) | exact Zas (b := false) rfl (fun e => by cases e) (fun _ => rfl) | (apply Zah; exact Zau rfl rfl) | (apply Zax; exact WT_lent rfl rfl)); exact rfl) | (refine Zbq rfl rfl rfl rfl rfl ?_) | (apply Zbt; exact rfl; exact rfl; exact rfl; (first | exact Za3 rfl | (apply Zah; exact Zcc rfl rfl) | (apply Zax; exact WT_lent rfl rfl) | (apply g_un; exact Zbg rfl) | (apply g_idxt; exact WT_idxt rfl rfl rfl)); exact rfl) | refine Zaa ?_ | refine Zag ?_ | refine Zaq ?_ | refine Zb4 rfl ?_ | (apply Zc8; exact rfl; exact rfl; exact rfl; exact rfl; (apply Zao; (refine Zaw Tryz.func110 rfl (letter_any _) rfl ?_; rintro _ _ ⟨rfl, rfl⟩))) | (refine Zbm rfl rfl (fun hb => ?_) (fun hb => ?_) <;> (repeat (first | replace hb := Zam hb | replace hb := Zan hb)) <;> (try (exfalso; fail))) | (refine Zac rfl (fun hb => ?_) (fun hb => ?_) <;> (repeat (first | replace hb := Zbr hb | replace hb := Zbs hb)) <;> (try (exfalso; fail)))))
   all_goals first | exact ⟨.inr rfl, ret1 rfl (.tmp rfl) (List.nil_sublist _) ⟨rfl, rfl⟩⟩ | (exfalso; refine h0 ⟨by omega, by omega, ?_⟩; rw [List.getElem?_eq_getElem (by omega)]; assumption)
theorem nameF_class (s : List UInt8) : nameF s = (decide (1 ≤ s.length) && (decide (s.length ≤ 32) && (decide (classF (s[0]?.getD 0) = 2) && s.all fun c => decide (classF c = 2) || (decide (classF c = 3) || decide (classF c = 5))))) := by
 have h1 : decide (classF (s[0]?.getD 0) = 2) = letterF (s[0]?.getD 0) := by
   rw [Bool.eq_iff_iff, decide_eq_true_eq]; exact class_letter _
 have h2 : (fun c => decide (classF c = 2) || (decide (classF c = 3) || decide (classF c = 5))) = partF := by
   funext c
   rw [Bool.eq_iff_iff]
   simp only [Bool.or_eq_true, decide_eq_true_eq]
   exact class_part c
 rw [h1, h2]; rfl
set_option maxHeartbeats 1000000 in
set_option maxRecDepth 100000 in
theorem name_any (s : List UInt8) : FnC Tryz.prog 95 [exT s] [] (fun p loc => p = exB (nameF s) ∧ loc = []) := by
 refine Zb7 Tryz.func95 rfl Tryz.ntmps95 rfl fun w0 F0 out => ?_
 by_cases h0 : 1 ≤ s.length ∧ s.length ≤ 32 ∧ classF (s[0]?.getD 0) = 2
 · obtain ⟨h1, h2, h3⟩ := h0
   have h3' : classF (s[0]'(by omega)) = 2 := by rw [List.getElem?_eq_getElem (by omega)] at h3; exact h3
   have hne : ¬ s = [] := fun e => by rw [e] at h1; simp at h1
   (repeat' (first | refine Za8 ?_ | refine Za1 ?_ | refine Za6 ?_ | (apply Za9; (first | exact Za3 rfl | exact Za4 rfl | exact Zas (b := true) rfl (fun _ => rfl) (fun e => by cases e) | exact Zas (b := false) rfl (fun e => by cases e) (fun _ => rfl) | (apply Zah; exact WT_teq rfl rfl) | (apply Zax; exact WT_lent rfl rfl)); exact rfl) | (refine Zbq rfl rfl rfl rfl rfl ?_) | (apply Zbt; exact rfl; exact rfl; exact rfl; (first | exact Za3 rfl | (apply Zah; first | exact Zc3 rfl rfl | exact Zcc rfl rfl) | (apply Zax; exact WT_lent rfl rfl) | (apply g_idxt; exact WT_idxt rfl rfl rfl)); exact rfl) | refine Zaa ?_ | refine Zag ?_ | refine Zaq ?_ | refine Zb4 rfl ?_ | (apply Zc8; exact rfl; exact rfl; exact rfl; exact rfl; (apply Zao; (refine Zaw Tryz.func107 rfl (class_any _) rfl ?_; rintro _ _ ⟨rfl, rfl⟩))) | (refine Zbm rfl rfl (fun hb => ?_) (fun hb => ?_) <;> (repeat (first | replace hb := Zam hb | replace hb := Zan hb)) <;> (try (exfalso; omega))) | (refine Zac rfl (fun hb => ?_) (fun hb => ?_) <;> (repeat (first | replace hb := Zam hb | replace hb := Zan hb | replace hb := Zbr hb | replace hb := Zbs hb)) <;> (try (exfalso; omega)))))
   all_goals (try (exfalso; first | omega | (simp_all; done)))
   refine Zbv (fun k : Nat => ([(0, exT s), (18, exT s), (19, exI .i64 s.length), (20, exI .i64 k)], [])) (fun k => k ≤ s.length ∧ (s.take k).all partF = true) (fun k => s.length - k) 0 ?_ ⟨Nat.zero_le _, rfl⟩ fun k hk => ?_
   · exact Zae (by repeat (first | exact Zai | refine Zad rfl ?_)) (List.Sublist.refl _)
   obtain ⟨hk, hall⟩ := hk
   by_cases hlt : k < s.length
   · have hcp := class_part s[k]
     cases hp : partF s[k]
     · (repeat' (first | refine Za8 ?_ | refine Za1 ?_ | refine Za6 ?_ | (apply Za9; (first | exact Za3 rfl | exact Za4 rfl | exact Zas (b := true) rfl (fun _ => rfl) (fun e => by cases e) | exact Zas (b := false) rfl (fun e => by cases e) (fun _ => rfl) | (apply Zah; first | exact Zau rfl rfl | exact Zc3 rfl rfl | exact Zbf rfl rfl) | (apply g_idxt; exact WT_idxt rfl rfl rfl)); exact rfl) | (refine Zbq rfl rfl rfl rfl rfl ?_) | (apply Zbt; exact rfl; exact rfl; exact rfl; (first | exact Za3 rfl | (apply Zah; exact Zc3 rfl rfl)); exact rfl) | refine Zaa ?_ | refine Zag ?_ | refine Zaq ?_ | refine Zb8 rfl ?_ | (apply Zaj; exact rfl; (apply Zao; (refine Zaw Tryz.func107 rfl (class_any _) rfl ?_; rintro _ _ ⟨rfl, rfl⟩))) | (refine Zbm rfl rfl (fun hb => ?_) (fun hb => ?_) <;> (repeat (first | replace hb := Zam hb | replace hb := Zan hb | replace hb := Zbr hb | replace hb := Zbs hb)) <;> (try (exfalso; fail))) | (refine Zac rfl (fun hb => ?_) (fun hb => ?_) <;> (repeat (first | replace hb := Zam hb | replace hb := Zan hb | replace hb := Zbr hb | replace hb := Zbs hb)) <;> (try (exfalso; omega)))))
       all_goals (try (exfalso; simp_all; done))
       refine ⟨.inr rfl, ret1 rfl (.tmp rfl) (List.nil_sublist _) ⟨congrArg exB ?_, rfl⟩⟩
       have hn : s.all partF = false := by rw [List.all_eq_false]; exact ⟨_, List.getElem_mem hlt, by simp [hp]⟩
       unfold nameF
       rw [hn]; simp
     · (repeat' (first | refine Za8 ?_ | refine Za1 ?_ | refine Za6 ?_ | (apply Za9; (first | exact Za3 rfl | exact Za4 rfl | exact Zas (b := true) rfl (fun _ => rfl) (fun e => by cases e) | exact Zas (b := false) rfl (fun e => by cases e) (fun _ => rfl) | (apply Zah; first | exact Zau rfl rfl | exact Zc3 rfl rfl | exact Zbf rfl rfl) | (apply g_idxt; exact WT_idxt rfl rfl rfl)); exact rfl) | (refine Zbq rfl rfl rfl rfl rfl ?_) | (apply Zbt; exact rfl; exact rfl; exact rfl; (first | exact Za3 rfl | (apply Zah; exact Zc3 rfl rfl)); exact rfl) | refine Zaa ?_ | refine Zag ?_ | refine Zaq ?_ | refine Zb8 rfl ?_ | (apply Zaj; exact rfl; (apply Zao; (refine Zaw Tryz.func107 rfl (class_any _) rfl ?_; rintro _ _ ⟨rfl, rfl⟩))) | (refine Zbm rfl rfl (fun hb => ?_) (fun hb => ?_) <;> (repeat (first | replace hb := Zam hb | replace hb := Zan hb | replace hb := Zbr hb | replace hb := Zbs hb)) <;> (try (exfalso; fail))) | (refine Zac rfl (fun hb => ?_) (fun hb => ?_) <;> (repeat (first | replace hb := Zam hb | replace hb := Zan hb | replace hb := Zbr hb | replace hb := Zbs hb)) <;> (try (exfalso; omega)))))
       all_goals first | exact ⟨k + 1, ⟨by omega, by rw [List.take_succ_eq_append_getElem hlt, List.all_append, hall]; simp [hp]⟩, by omega, Zae (by repeat (first | exact Zai | refine Zad rfl ?_)) (List.Sublist.refl _)⟩ | (exfalso; simp_all; done)
   · have hk9 : k = s.length := by omega
     subst hk9
     rw [List.take_length] at hall
     (repeat' (first | refine Za8 ?_ | refine Za1 ?_ | refine Za6 ?_ | (apply Za9; (first | exact Za4 rfl | (apply Zah; exact Zau rfl rfl)); exact rfl) | refine Zaq ?_ | refine Zbk ?_ | (refine Zac rfl (fun hb => ?_) (fun hb => ?_) <;> (repeat (first | replace hb := Zam hb | replace hb := Zan hb)) <;> (try (exfalso; omega)))))
     all_goals (refine ⟨.inr rfl, ret1 rfl (.tmp rfl) (List.nil_sublist _) ⟨congrArg exB ?_, rfl⟩⟩)
     all_goals (rw [class_letter] at h3; unfold nameF; simp [*])
 · have hn : nameF s = false := by
     cases e : nameF s
     · rfl
     · rw [nameF_class] at e
       simp only [Bool.and_eq_true, decide_eq_true_eq] at e
       exact absurd ⟨e.1, e.2.1, e.2.2.1⟩ h0
   rw [hn]
   by_cases e0 : s = []
   · subst e0
     (repeat' (first | refine Za8 ?_ | refine Za1 ?_ | refine Za6 ?_ | (apply Za9; (first | exact Za3 rfl | exact Za4 rfl | exact Zas (b := true) rfl (fun _ => rfl) (fun e => by cases e) | (apply Zah; exact WT_teq rfl rfl)); exact rfl) | (refine Zbq rfl rfl rfl rfl rfl ?_) | refine Zaq ?_ | refine Zb4 rfl ?_))
     all_goals exact ⟨.inr rfl, ret1 rfl (.tmp rfl) (List.nil_sublist _) ⟨rfl, rfl⟩⟩
   · have h1 : 1 ≤ s.length := by
       rcases s with _ | ⟨c, t⟩
       · exact absurd rfl e0
       · simp
     by_cases h32 : s.length ≤ 32
     · have hc : ¬ classF (s[0]'(by omega)) = 2 := fun e => h0 ⟨h1, h32, by rw [List.getElem?_eq_getElem (by omega)]; exact e⟩
       (repeat' (first | refine Za8 ?_ | refine Za1 ?_ | refine Za6 ?_ | (apply Za9; (first | exact Za3 rfl | exact Za4 rfl | exact Zas (b := true) rfl (fun _ => rfl) (fun e => by cases e) | exact Zas (b := false) rfl (fun e => by cases e) (fun _ => rfl) | (apply Zah; exact WT_teq rfl rfl)); exact rfl) | (refine Zbq rfl rfl rfl rfl rfl ?_) | (apply Zbt; exact rfl; exact rfl; exact rfl; (first | exact Za3 rfl | (apply Zah; first | exact Zc3 rfl rfl | exact Zcc rfl rfl) | (apply Zax; exact WT_lent rfl rfl) | (apply g_idxt; exact WT_idxt rfl rfl rfl)); exact rfl) | refine Zaq ?_ | refine Zb4 rfl ?_ | (apply Zc8; exact rfl; exact rfl; exact rfl; exact rfl; (apply Zao; (refine Zaw Tryz.func107 rfl (class_any _) rfl ?_; rintro _ _ ⟨rfl, rfl⟩))) | (refine Zbm rfl rfl (fun hb => ?_) (fun hb => ?_) <;> (repeat (first | replace hb := Zam hb | replace hb := Zan hb)) <;> (try (exfalso; omega))) | (refine Zac rfl (fun hb => ?_) (fun hb => ?_) <;> (repeat (first | replace hb := Zam hb | replace hb := Zan hb | replace hb := Zbr hb | replace hb := Zbs hb)) <;> (try (exfalso; omega)))))
       all_goals first | exact ⟨.inr rfl, ret1 rfl (.tmp rfl) (List.nil_sublist _) ⟨rfl, rfl⟩⟩ | (exfalso; first | omega | (simp_all; done))
     · (repeat' (first | refine Za8 ?_ | refine Za1 ?_ | refine Za6 ?_ | (apply Za9; (first | exact Za3 rfl | exact Za4 rfl | exact Zas (b := true) rfl (fun _ => rfl) (fun e => by cases e) | exact Zas (b := false) rfl (fun e => by cases e) (fun _ => rfl) | (apply Zah; exact WT_teq rfl rfl)); exact rfl) | (refine Zbq rfl rfl rfl rfl rfl ?_) | (apply Zbt; exact rfl; exact rfl; exact rfl; (first | exact Za3 rfl | (apply Zah; exact Zcc rfl rfl) | (apply Zax; exact WT_lent rfl rfl)); exact rfl) | refine Zaq ?_ | refine Zb4 rfl ?_ | (refine Zbm rfl rfl (fun hb => ?_) (fun hb => ?_) <;> (repeat (first | replace hb := Zam hb | replace hb := Zan hb)) <;> (try (exfalso; omega)))))
       all_goals first | exact ⟨.inr rfl, ret1 rfl (.tmp rfl) (List.nil_sublist _) ⟨rfl, rfl⟩⟩ | (exfalso; first | omega | (simp_all; done))
end Go.Proofs.YthldagplhklbnaaGreatDoor
namespace Go.Fr
open Go.RowKit Go.Kx
structure Crit where
 name : List UInt8
 low : Int
 high : Int
 step : Int
 how : Int
 trim : Int
 rev : Bool
instance : DecidableEq Crit := fun a b => decidable_of_iff (a.name = b.name ∧ a.low = b.low ∧ a.high = b.high ∧ a.step = b.step ∧ a.how = b.how ∧ a.trim = b.trim ∧ a.rev = b.rev) (by cases a; cases b; simp)
structure ItemD where
 name : List UInt8
 value : Int
 most : Int
instance : DecidableEq ItemD := fun a b => decidable_of_iff (a.name = b.name ∧ a.value = b.value ∧ a.most = b.most) (by cases a; cases b; simp)
structure KeyD where
 kind : Int
 name : List UInt8
 n : Int
instance : DecidableEq KeyD := fun a b => decidable_of_iff (a.kind = b.kind ∧ a.name = b.name ∧ a.n = b.n) (by cases a; cases b; simp)
structure TieD where
 name : List UInt8
 keys : List KeyD
instance : DecidableEq TieD := fun a b => decidable_of_iff (a.name = b.name ∧ a.keys = b.keys) (by cases a; cases b; simp)
inductive Ex where
 | mk (kind : Int) (name : List UInt8) (n d : Int) (l : List Ex)
namespace Ex
def kind : Ex → Int | mk k _ _ _ _ => k
def name : Ex → List UInt8 | mk _ s _ _ _ => s
def n : Ex → Int | mk _ _ n _ _ => n
def d : Ex → Int | mk _ _ _ d _ => d
def l : Ex → List Ex | mk _ _ _ _ l => l
mutual
def beq : Ex → Ex → Bool
 | mk k s n d l, mk k' s' n' d' l' => decide (k = k') && (decide (s = s') && (decide (n = n') && (decide (d = d') && beqs l l')))
def beqs : List Ex → List Ex → Bool
 | [], [] => true
 | x :: xs, y :: ys => beq x y && beqs xs ys
 | _, _ => false
end
mutual
theorem beq_iff : ∀ a b : Ex, beq a b = true ↔ a = b
 | mk k s n d l, mk k' s' n' d' l' => by
   simp only [beq, Bool.and_eq_true, decide_eq_true_eq, beqs_iff l l', mk.injEq]
theorem beqs_iff : ∀ a b : List Ex, beqs a b = true ↔ a = b
 | [], [] => by simp [beqs]
 | [], y :: ys => by simp [beqs]
 | x :: xs, [] => by simp [beqs]
 | x :: xs, y :: ys => by simp only [beqs, Bool.and_eq_true, beq_iff x y, beqs_iff xs ys, List.cons.injEq]
end
instance : DecidableEq Ex := fun a b => if h : beq a b = true then isTrue ((beq_iff a b).1 h) else isFalse fun e => h ((beq_iff a b).2 e)
theorem ext_iff' (a b : Ex) : a = b ↔ a.kind = b.kind ∧ a.name = b.name ∧ a.n = b.n ∧ a.d = b.d ∧ a.l = b.l := by
 cases a; cases b; simp [kind, name, n, d, l]
end Ex
structure RoundD where
 name : List UInt8
 panel : Int
 quota : Int
 cut : Int
 places : Bool
 free : Bool
 score : Ex
 tie : List UInt8
 tieNo : Int
instance : DecidableEq RoundD := fun a b => decidable_of_iff (a.name = b.name ∧ a.panel = b.panel ∧ a.quota = b.quota ∧ a.cut = b.cut ∧ a.places = b.places ∧ a.free = b.free ∧ a.score = b.score ∧ a.tie = b.tie ∧ a.tieNo = b.tieNo) (by cases a; cases b; simp)
structure RulesD where
 name : List UInt8
 crits : List Crit
 bonus : List ItemD
 malus : List ItemD
 ties : List TieD
 rounds : List RoundD
 prizes : List Int
 points : List Int
 best : Int
instance : DecidableEq RulesD := fun a b => decidable_of_iff (a.name = b.name ∧ a.crits = b.crits ∧ a.bonus = b.bonus ∧ a.malus = b.malus ∧ a.ties = b.ties ∧ a.rounds = b.rounds ∧ a.prizes = b.prizes ∧ a.points = b.points ∧ a.best = b.best) (by cases a; cases b; simp)
def noSP : SP := ⟨fun _ _ _ => False, fun h _ => h⟩
instance : Sc noSP := ⟨fun _ _ _ h => h.elim⟩
def critV (c : Crit) : List SP := [exT c.name, exI .i64 c.low, exI .i64 c.high, exI .i64 c.step, exI .i64 c.how, exI .i64 c.trim, exB c.rev]
instance {c : Crit} : Scs (critV c) := by unfold critV; infer_instance
instance : LenS critV 7 := ⟨fun _ => rfl⟩
abbrev eCrit : Enc Crit := encS critV 7 64
def itemV (c : ItemD) : List SP := [exT c.name, exI .i64 c.value, exI .i64 c.most]
instance {c : ItemD} : Scs (itemV c) := by unfold itemV; infer_instance
instance : LenS itemV 3 := ⟨fun _ => rfl⟩
abbrev eItem : Enc ItemD := encS itemV 3 32
def keyV (c : KeyD) : List SP := [exI .i64 c.kind, exT c.name, exI .i64 c.n]
instance {c : KeyD} : Scs (keyV c) := by unfold keyV; infer_instance
instance : LenS keyV 3 := ⟨fun _ => rfl⟩
abbrev eKey : Enc KeyD := encS keyV 3 32
def tieV (c : TieD) : List SP := [exT c.name, isl eKey c.keys]
instance {c : TieD} : Scs (tieV c) := by unfold tieV; infer_instance
instance : LenS tieV 2 := ⟨fun _ => rfl⟩
abbrev eTie : Enc TieD := encS tieV 2 40
def exL : Nat → List Ex → SP
 | 0, _ => noSP
 | k + 1, l => isl (encS (fun a : Ex => [exI .i64 a.kind, exT a.name, exI .i64 a.n, exI .i64 a.d, exL k a.l]) 5 64) l
def exV (k : Nat) (a : Ex) : List SP := [exI .i64 a.kind, exT a.name, exI .i64 a.n, exI .i64 a.d, exL k a.l]
instance {k : Nat} : LenS (exV k) 5 := ⟨fun _ => rfl⟩
abbrev eEx (k : Nat) : Enc Ex := encS (exV k) 5 64
instance {k : Nat} {l : List Ex} : Sc (exL k l) := by
 cases k with
 | zero => exact inferInstanceAs (Sc noSP)
 | succ k => exact inferInstanceAs (Sc (isl (eEx k) l))
instance {k : Nat} {c : Ex} : Scs (exV k c) := by unfold exV; infer_instance
def roundV (k : Nat) (y : RoundD) : List SP := [exT y.name, exI .i64 y.panel, exI .i64 y.quota, exI .i64 y.cut, exB y.places, exB y.free, exI .i64 y.score.kind, exT y.score.name, exI .i64 y.score.n, exI .i64 y.score.d, exL k y.score.l, exT y.tie, exI .i64 y.tieNo]
instance {k : Nat} {c : RoundD} : Scs (roundV k c) := by unfold roundV; infer_instance
instance {k : Nat} : LenS (roundV k) 13 := ⟨fun _ => rfl⟩
abbrev eRound (k : Nat) : Enc RoundD := encS (roundV k) 13 136
def rulesV (k : Nat) (r : RulesD) : List SP := [exT r.name, isl eCrit r.crits, isl eItem r.bonus, isl eItem r.malus, isl eTie r.ties, isl (eRound k) r.rounds, isl eI r.prizes, isl eI r.points, exI .i64 r.best]
instance {k : Nat} {c : RulesD} : Scs (rulesV k c) := by unfold rulesV; infer_instance
theorem isl_im {α : Type} {fs gs : α → List SP} {sz bt : Nat} {l : List α} (h : ∀ a F w cs, CellsR F w (fs a) cs → CellsR F w (gs a) cs) : Im (isl (encS fs sz bt) l) (isl (encS gs sz bt) l) := by
 rintro F w v ⟨a, n, c, rfl, hs⟩
 refine ⟨a, n, c, rfl, hs.length, hs.cap, hs.capMax, hs.bytes, hs.nil, fun i hi => ?_⟩
 obtain ⟨b, off, cs, h1, h2, h3, h4, h5, h6⟩ := hs.elem i hi
 exact ⟨b, off, cs, h1, h2, h3, h4, h5, h6.1, h _ _ _ _ h6.2⟩
theorem exL_mono : ∀ (k : Nat) (l : List Ex), Im (exL k l) (exL (k + 1) l)
 | 0, _ => fun _ _ _ h => h.elim
 | k + 1, l => isl_im fun a F w cs h => by
   have hi : Ims [exI .i64 a.kind, exT a.name, exI .i64 a.n, exI .i64 a.d, exL k a.l] [exI .i64 a.kind, exT a.name, exI .i64 a.n, exI .i64 a.d, exL (k + 1) a.l] :=
     .cons (Im.refl _) (.cons (Im.refl _) (.cons (Im.refl _) (.cons (Im.refl _) (.cons (exL_mono k a.l) .nil))))
   exact hi.cells h
end Go.Fr
namespace Go.Fr
open Go.RowKit Go.Kx
namespace Ex
mutual
def tot : Ex → Nat
 | mk _ _ _ _ l => 1 + tots l
def tots : List Ex → Nat
 | [] => 0
 | x :: xs => tot x + tots xs
end
mutual
def depth : Ex → Nat
 | mk _ _ _ _ l => depths l + 1
def depths : List Ex → Nat
 | [] => 0
 | x :: xs => max (depth x) (depths xs)
end
mutual
def partsN : Ex → Nat → Nat
 | mk _ _ _ _ l, m => partsL l m 1
def partsL : List Ex → Nat → Nat → Nat
 | [], _, n => n
 | x :: xs, m, n => if n ≤ m then partsL xs m (n + partsN x (m - n)) else n
end
mutual
def sizeN : Ex → Nat → Nat × Nat
 | mk _ _ _ _ l, p => if 256 < p + 1 then (p + 1, 0) else ((sizesN l (p + 1) 0).1, (sizesN l (p + 1) 0).2 + 1)
def sizesN : List Ex → Nat → Nat → Nat × Nat
 | [], p, d => (p, d)
 | x :: xs, p, d => sizesN xs (sizeN x p).1 (max d (sizeN x p).2)
end
theorem tot_pos (x : Ex) : 1 ≤ x.tot := by cases x; simp [tot]
theorem tot_l (x : Ex) : x.tot = 1 + tots x.l := by cases x; rfl
theorem depth_l (x : Ex) : x.depth = depths x.l + 1 := by cases x; rfl
theorem partsN_l (x : Ex) (m : Nat) : x.partsN m = partsL x.l m 1 := by cases x; rfl
theorem sizeN_l (x : Ex) (p : Nat) : x.sizeN p = if 256 < p + 1 then (p + 1, 0) else ((sizesN x.l (p + 1) 0).1, (sizesN x.l (p + 1) 0).2 + 1) := by cases x; rfl
theorem partsL_big : ∀ (l : List Ex) (m n : Nat), m < n → partsL l m n = n
 | [], _, _, _ => rfl
 | x :: xs, m, n, h => by rw [partsL, if_neg (by omega)]
mutual
theorem partsN_spec : ∀ (x : Ex) (m : Nat), (x.partsN m ≤ m + 1) ∧ (x.tot ≤ m → x.partsN m = x.tot) ∧ (m < x.tot → m < x.partsN m)
 | mk _ _ _ _ l, m => by
   have h := partsL_spec l m 1
   simp only [partsN, tot]
   rcases Nat.eq_zero_or_pos m with h0 | h0
   · subst h0
     rw [partsL_big l 0 1 (by omega)]
     omega
   · obtain ⟨h1, h2, h3⟩ := h (by omega)
     exact ⟨h1, h2, h3⟩
theorem partsL_spec : ∀ (l : List Ex) (m n : Nat), n ≤ m + 1 → (partsL l m n ≤ m + 1) ∧ (n + tots l ≤ m → partsL l m n = n + tots l) ∧ (m < n + tots l → m < partsL l m n)
 | [], m, n, h => by simp only [partsL, tots]; omega
 | x :: xs, m, n, h => by
   simp only [partsL, tots]
   have hp := tot_pos x
   split
   · rename_i hn
     obtain ⟨h1, h2, h3⟩ := partsN_spec x (m - n)
     obtain ⟨h4, h5, h6⟩ := partsL_spec xs m (n + x.partsN (m - n)) (by omega)
     refine ⟨h4, fun hx => ?_, fun hx => ?_⟩
     · have e := h2 (by omega)
       rw [e] at h5 ⊢
       rw [h5 (by omega)]; omega
     · by_cases hc : x.tot ≤ m - n
       · have e := h2 hc
         rw [e] at h6 ⊢
         exact h6 (by omega)
       · have e := h3 (by omega)
         exact h6 (by omega)
   · omega
end
mutual
theorem sizeN_spec : ∀ (x : Ex) (p : Nat), (p < (x.sizeN p).1) ∧ ((x.sizeN p).1 ≤ p + x.tot) ∧ (p + x.tot ≤ 256 → x.sizeN p = (p + x.tot, x.depth)) ∧ (256 < p + x.tot → 256 < (x.sizeN p).1)
 | mk _ _ _ _ l, p => by
   simp only [sizeN, tot, depth]
   split
   · refine ⟨by omega, by show p + 1 ≤ _; omega, fun h => by omega, fun _ => by show 256 < p + 1; omega⟩
   · obtain ⟨h1, h2, h3, h4⟩ := sizesN_spec l (p + 1) 0
     refine ⟨by show p < (sizesN l (p + 1) 0).1; omega, by show (sizesN l (p + 1) 0).1 ≤ _; omega, fun h => ?_, fun h => ?_⟩
     · rw [h3 (by omega)]; simp; omega
     · exact h4 (by omega)
theorem sizesN_spec : ∀ (l : List Ex) (p d : Nat), (p ≤ (sizesN l p d).1) ∧ ((sizesN l p d).1 ≤ p + tots l) ∧ (p + tots l ≤ 256 → sizesN l p d = (p + tots l, max d (depths l))) ∧ (256 < p + tots l → 256 < (sizesN l p d).1)
 | [], p, d => by simp [sizesN, tots, depths]
 | x :: xs, p, d => by
   simp only [sizesN, tots, depths]
   obtain ⟨h1, h2, h3, h4⟩ := sizeN_spec x p
   obtain ⟨h5, h6, h7, h8⟩ := sizesN_spec xs (x.sizeN p).1 (max d (x.sizeN p).2)
   refine ⟨by omega, by omega, fun h => ?_, fun h => ?_⟩
   · have e := h3 (by omega)
     rw [e] at h7 ⊢
     rw [h7 (by show p + x.tot + tots xs ≤ 256; omega)]
     simp only [Prod.mk.injEq]
     exact ⟨by omega, by rw [Nat.max_assoc]⟩
   · by_cases hc : 256 < p + x.tot
     · have := h4 hc; omega
     · have e := h3 (by omega)
       rw [e] at h8 ⊢
       exact h8 (by show 256 < p + x.tot + tots xs; omega)
end
theorem tots_mem : ∀ {l : List Ex} {x : Ex}, x ∈ l → x.tot ≤ tots l
 | y :: ys, x, h => by
   rcases List.mem_cons.1 h with rfl | h
   · simp [tots]
   · have := tots_mem h; simp only [tots]; omega
theorem tots_drop {l : List Ex} {k : Nat} (h : k < l.length) : tots (l.drop k) = l[k].tot + tots (l.drop (k + 1)) := by
 rw [List.drop_eq_getElem_cons h, tots]
theorem depths_drop {l : List Ex} {k : Nat} (h : k < l.length) : depths (l.drop k) = max l[k].depth (depths (l.drop (k + 1))) := by
 rw [List.drop_eq_getElem_cons h, depths]
theorem partsL_drop {l : List Ex} {k m n : Nat} (h : k < l.length) : partsL (l.drop k) m n = if n ≤ m then partsL (l.drop (k + 1)) m (n + l[k].partsN (m - n)) else n := by
 rw [List.drop_eq_getElem_cons h, partsL]
theorem sizesN_drop {l : List Ex} {k p d : Nat} (h : k < l.length) : sizesN (l.drop k) p d = sizesN (l.drop (k + 1)) (l[k].sizeN p).1 (max d (l[k].sizeN p).2) := by
 rw [List.drop_eq_getElem_cons h, sizesN]
theorem depth_le_tot : (∀ x : Ex, x.depth ≤ x.tot) := by
 intro x
 have key : ∀ n (x : Ex), x.tot ≤ n → x.depth ≤ x.tot := by
   intro n
   induction n with
   | zero => intro x h; have := tot_pos x; omega
   | succ n ih =>
     intro x h
     rw [depth_l, tot_l]
     rw [tot_l] at h
     have : ∀ l : List Ex, tots l ≤ n → depths l ≤ tots l := by
       intro l
       induction l with
       | nil => intro _; simp [depths]
       | cons y ys ihl =>
         intro h
         simp only [tots] at h
         have h1 := ih y (by omega)
         have h2 := ihl (by omega)
         simp only [depths, tots]; omega
     have := this x.l (by omega)
     omega
 exact key _ x (Nat.le_refl _)
end Ex
theorem Zbd {C : Cx} {env env' : Env} {loc loc' : List Ent} (n : Nat) (he : ∀ t q, look t env' = some q → look t env = some q) (hs : loc.drop n = loc') : Leads C env loc env' loc' := Zae he (hs ▸ List.drop_sublist n loc)
theorem WP_cut1 {α : Type} {C : Cx} {c : Code} {Q : Post} {env : Env} {loc : List Ent} (I : α → Env × List Ent) (ok : α → Prop) (h : WP C c (cutP C I ok Q) env loc) (k : ∀ z, ok z → Q .normal (I z).1 (I z).2) : WP C c Q env loc := by
 constructor
 intro F a w hR
 refine Code.wp_mono ?_ (h.out F a w hR)
 rintro e a' w' ⟨F', env', loc', hR', hq⟩
 cases e with
 | normal =>
   obtain ⟨z, hz, hl⟩ := hq
   obtain ⟨F2, hR2⟩ := hl F' a' w' hR'
   exact ⟨F2, _, _, hR2, k z hz⟩
 | _ => exact ⟨F', env', loc', hR', hq⟩
theorem WPL_vv {C : Cx} {ops : Array Oper} {Q : Post} {l : List Oper} {env : Env} {loc : List Ent} {k T sz n : Nat} {v : Value} {ps : List SP} (he : loc[k]? = some (vec v T sz n ps)) (hn : 0 < n) (h : ∀ b c, v = .slice (some ⟨b, 0, none⟩) n c → WPL C ops Q l env loc) : WPL C ops Q l env loc := ⟨fun F a w hR => by obtain ⟨b, c, hv, _, _⟩ := vec_open hR he hn; exact (h b c hv).out F a w hR⟩
theorem Leads_nilv {C : Cx} {env env' : Env} {loc loc' : List Ent} (T sz : Nat) (h : Leads C env (vec (.slice none 0 0) T sz 0 [] :: loc) env' loc') : Leads C env loc env' loc' := (LeadsS_vec_nil (T := T) (sz := sz)).leads.trans h
theorem Says_ex0 {x : Ex} : Says (agg (exV 0 x)) False := Zca (i := 4) (p := noSP) rfl ⟨fun h => h⟩
end Go.Fr
namespace Go.Fr
open Go.RowKit Go.Kx
def indexF (l : List (List UInt8)) (s : List UInt8) : Int := match l.findIdx? (fun x => decide (x = s)) with
 | some i => i
 | none => -1
theorem indexF_hit {l : List (List UInt8)} {s : List UInt8} {k : Nat} (hk : k < l.length) (hn : ∀ j (h : j < k), l[j]'(by omega) ≠ s) (he : l[k] = s) : indexF l s = k := by
 have : l.findIdx? (fun x => decide (x = s)) = some k := by
   rw [List.findIdx?_eq_some_iff_getElem]
   exact ⟨hk, by simp [he], fun j hj => by simpa using hn j hj⟩
 unfold indexF; rw [this]
theorem indexF_miss {l : List (List UInt8)} {s : List UInt8} (hn : ∀ j (h : j < l.length), l[j] ≠ s) : indexF l s = -1 := by
 have : l.findIdx? (fun x => decide (x = s)) = none := by
   rw [List.findIdx?_eq_none_iff]
   intro x hx
   obtain ⟨j, hj, rfl⟩ := List.getElem_of_mem hx
   simpa using hn j hj
 unfold indexF; rw [this]
theorem indexF_nonneg (l : List (List UInt8)) (s : List UInt8) : 0 ≤ indexF l s ↔ s ∈ l := by
 unfold indexF
 cases h : l.findIdx? (fun x => decide (x = s)) with
 | none =>
   rw [List.findIdx?_eq_none_iff] at h
   simp only [show ¬ (0 : Int) ≤ -1 by decide, false_iff]
   intro hm
   simpa using h s hm
 | some i =>
   obtain ⟨h1, h2, _⟩ := List.findIdx?_eq_some_iff_getElem.1 h
   simp only [Int.natCast_nonneg, true_iff]
   have : l[i] = s := by simpa using h2
   rw [← this]; exact List.getElem_mem h1
theorem indexF_lt {l : List (List UInt8)} {s : List UInt8} (h : s ∈ l) : ∃ (i : Nat) (hi : i < l.length), indexF l s = i ∧ l[i] = s ∧ ∀ j (hj : j < i), l[j]'(by omega) ≠ s := by
 have h0 := (indexF_nonneg l s).2 h
 unfold indexF at h0 ⊢
 cases e : l.findIdx? (fun x => decide (x = s)) with
 | none => rw [e] at h0; exact absurd h0 (by decide)
 | some i =>
   obtain ⟨h1, h2, h3⟩ := List.findIdx?_eq_some_iff_getElem.1 e
   exact ⟨i, h1, rfl, by simpa using h2, fun j hj => by simpa using h3 j hj⟩
def onceF : List (List UInt8) → Bool
 | [] => true
 | s :: l => !decide (s ∈ l) && onceF l
theorem onceF_iff : ∀ l : List (List UInt8), onceF l = true ↔ ∀ (i j : Nat) (hi : i < l.length) (hj : j < l.length), l[i] = l[j] → i = j
 | [] => by simp [onceF]
 | s :: l => by
   simp only [onceF, Bool.and_eq_true, Bool.not_eq_true', decide_eq_false_iff_not, onceF_iff l]
   constructor
   · rintro ⟨h1, h2⟩ i j hi hj he
     cases i with
     | zero =>
       cases j with
       | zero => rfl
       | succ j => exact absurd (by rw [show s = l[j]'(by simpa using hj) from he]; exact List.getElem_mem _) h1
     | succ i =>
       cases j with
       | zero => exact absurd (by rw [show s = l[i]'(by simpa using hi) from he.symm]; exact List.getElem_mem _) h1
       | succ j => rw [h2 i j (by simpa using hi) (by simpa using hj) he]
   · intro h
     refine ⟨fun hm => ?_, fun i j hi hj he => ?_⟩
     · obtain ⟨j, hj, e⟩ := List.getElem_of_mem hm
       have := h 0 (j + 1) (by simp) (by simpa using hj) (by simpa using e.symm)
       omega
     · have := h (i + 1) (j + 1) (by simpa using hi) (by simpa using hj) (by simpa using he)
       omega
theorem onceF_index {l : List (List UInt8)} : onceF l = true ↔ ∀ (i : Nat) (hi : i < l.length), indexF l l[i] = i := by
 rw [onceF_iff]
 constructor
 · intro h i hi
   obtain ⟨j, hj, e1, e2, _⟩ := indexF_lt (List.getElem_mem hi)
   rw [e1, h j i hj hi e2]
 · intro h i j hi hj he
   have h1 := h i hi
   have h2 := h j hj
   rw [he, h2] at h1
   omega
def refN (l0 l3 : List (List UInt8)) (kind : Int) (s : List UInt8) (n : Int) : Int := if kind = 2 then indexF l0 s else if kind = 5 then indexF l3 s else n
def refOk (l0 l3 : List (List UInt8)) (kind : Int) (s : List UInt8) : Bool := if kind = 2 then decide (0 ≤ indexF l0 s) else if kind = 5 then decide (0 ≤ indexF l3 s) else true
namespace Ex
mutual
def res (l0 l3 : List (List UInt8)) : Ex → Ex
 | mk k s n d l => mk k s (refN l0 l3 k s n) d (ress l0 l3 l)
def ress (l0 l3 : List (List UInt8)) : List Ex → List Ex
 | [] => []
 | x :: xs => res l0 l3 x :: ress l0 l3 xs
end
mutual
def ok (l0 l3 : List (List UInt8)) : Ex → Bool
 | mk k s _ _ l => refOk l0 l3 k s && oks l0 l3 l
def oks (l0 l3 : List (List UInt8)) : List Ex → Bool
 | [] => true
 | x :: xs => ok l0 l3 x && oks l0 l3 xs
end
theorem ress_map (l0 l3 : List (List UInt8)) : ∀ l : List Ex, ress l0 l3 l = l.map (res l0 l3)
 | [] => rfl
 | x :: xs => by simp [ress, ress_map l0 l3 xs]
theorem oks_all (l0 l3 : List (List UInt8)) : ∀ l : List Ex, oks l0 l3 l = l.all (ok l0 l3)
 | [] => rfl
 | x :: xs => by simp [oks, oks_all l0 l3 xs]
theorem res_l (l0 l3 : List (List UInt8)) (x : Ex) : x.res l0 l3 = mk x.kind x.name (refN l0 l3 x.kind x.name x.n) x.d (x.l.map (res l0 l3)) := by cases x; simp [res, ress_map, kind, name, n, d, l]
theorem ok_l (l0 l3 : List (List UInt8)) (x : Ex) : x.ok l0 l3 = (refOk l0 l3 x.kind x.name && x.l.all (ok l0 l3)) := by cases x; simp [ok, oks_all, kind, name, l]
end Ex
def keyN (l0 l2 l3 : List (List UInt8)) (k : KeyD) : KeyD := { k with n := if k.kind = 1 then indexF l0 k.name else if k.kind = 2 then indexF l3 k.name else if k.kind = 5 then indexF l2 k.name else k.n }
def keyOk (l0 l2 l3 : List (List UInt8)) (k : KeyD) : Bool := if k.kind = 1 then decide (0 ≤ indexF l0 k.name) else if k.kind = 2 then decide (0 ≤ indexF l3 k.name) else if k.kind = 5 then decide (0 ≤ indexF l2 k.name) else true
namespace RulesD
def n0 (r : RulesD) : List (List UInt8) := r.crits.map (·.name)
def n1 (r : RulesD) : List (List UInt8) := r.bonus.map (·.name) ++ r.malus.map (·.name)
def n2 (r : RulesD) : List (List UInt8) := r.ties.map (·.name)
def n3 (r : RulesD) : List (List UInt8) := r.rounds.map (·.name)
def big (r : RulesD) : Bool := decide (64 < r.crits.length) || (decide (64 < r.bonus.length) || (decide (64 < r.malus.length) || (decide (16 < r.ties.length) || (decide (8 < r.rounds.length) || (decide (64 < r.prizes.length) || decide (64 < r.points.length))))))
def large (r : RulesD) : Bool := r.big || (r.ties.any (fun t => decide (32 < t.keys.length)) || r.rounds.any (fun y => decide (256 < y.score.tot) || decide (16 < y.score.depth)))
def few (r : RulesD) : Bool := !(decide (70 < r.crits.length) || (decide (70 < r.bonus.length) || (decide (70 < r.malus.length) || (decide (20 < r.ties.length) || (decide (12 < r.rounds.length) || (decide (70 < r.prizes.length) || decide (70 < r.points.length))))))) && (r.ties.all (fun t => decide (t.keys.length ≤ 40)) && r.rounds.all (fun y => decide (y.score.tot ≤ 400)))
def zero : RulesD := ⟨[], [], [], [], [], [], [], [], 0⟩
def tieN (r : RulesD) (t : TieD) : TieD := { t with keys := t.keys.map (keyN r.n0 r.n2 r.n3) }
def tieOk (r : RulesD) (t : TieD) : Bool := t.keys.all (keyOk r.n0 r.n2 r.n3)
def roundN (r : RulesD) (y : RoundD) : RoundD := { y with score := y.score.res r.n0 r.n3, tieNo := if y.tie = [] then -1 else indexF r.n2 y.tie }
def roundOk (r : RulesD) (y : RoundD) : Bool := y.score.ok r.n0 r.n3 && (decide (y.tie = []) || decide (0 ≤ indexF r.n2 y.tie))
def resolved (r : RulesD) : RulesD := { r with ties := r.ties.map r.tieN, rounds := r.rounds.map r.roundN }
def allOk (r : RulesD) : Bool := r.ties.all r.tieOk && r.rounds.all r.roundOk
def once (r : RulesD) : Bool := onceF r.n0 && (onceF r.n1 && (onceF r.n2 && onceF r.n3))
def resolve (fr : List UInt8 → Bool) (r : RulesD) : RulesD × Int :=
 if r.large then (zero, 2)
 else if !(fr r.name && (r.n0.all fr && (r.n1.all fr && (r.n2.all fr && r.n3.all fr)))) then (zero, 140)
 else if !r.once then (zero, 141)
 else if !r.allOk then (zero, 140)
 else (r.resolved, 0)
def check (fr : List UInt8 → Bool) (r : RulesD) : Int :=
 if (r.resolve fr).2 ≠ 0 then (r.resolve fr).2 else if (r.resolve fr).1 = r then 0 else 140
end RulesD
end Go.Fr
namespace Go.Proofs.YthldagplhklbnaaGreatDoor
open Go Go.RowKit Go.Kx Go.Fr
set_option maxRecDepth 100000 in
theorem r14index_any (l : List (List UInt8)) (s : List UInt8) : FnC Tryz.prog 67 [isl eStr l, exT s] [] (fun p loc => p = exI .i64 (indexF l s) ∧ loc = []) := by
 refine Zbe (i := 0) rfl Zbl fun hl => ?_
 replace hl := hl.1
 simp only [maxLen] at hl
 refine Zb7 Tryz.func67 rfl Tryz.ntmps67 rfl fun w0 F0 out => ?_
 (repeat' (first | refine Za8 ?_ | refine Za1 ?_ | refine Za6 ?_ | (apply Za9; (first | exact Za4 rfl); exact rfl) | refine Zaa ?_))
 refine Zbv (fun k : Nat => ([(0, isl eStr l), (1, exT s), (5, exI .i64 k)], [])) (fun k => k ≤ l.length ∧ ∀ j (h : j < k) (h2 : j < l.length), l[j] ≠ s) (fun k => l.length - k) 0 ?_ ⟨Nat.zero_le _, fun j h => absurd h (Nat.not_lt_zero j)⟩ fun k hk => ?_
 · exact Zae (by repeat (first | exact Zai | refine Zad rfl ?_)) (List.Sublist.refl _)
 obtain ⟨hk, hn⟩ := hk
 by_cases hlt : k < l.length
 · by_cases he : l[k] = s
   · (repeat' (first | refine Za8 ?_ | refine Za1 ?_ | refine Za6 ?_ | (apply Za9; (first | exact Za3 rfl | exact Za4 rfl | (apply Za7; exact Zb1 rfl rfl) | (apply Zah; first | exact WT_teq rfl rfl | exact Zau rfl rfl | exact Zbf rfl rfl) | (apply Zak; exact Zar rfl rfl rfl) | (apply Zax; exact Zb3 rfl rfl)); exact rfl) | refine Zaa ?_ | refine Zag ?_ | refine Zaq ?_ | (refine Zac rfl (fun hb => ?_) (fun hb => ?_) <;> (repeat (first | replace hb := Zam hb | replace hb := Zan hb)) <;> (try (exfalso; omega)))))
     all_goals (try (exfalso; simp_all; done))
     refine ⟨.inr rfl, ret1 rfl (.tmp rfl) (List.nil_sublist _) ⟨congrArg (exI .i64) ?_, rfl⟩⟩
     exact (indexF_hit hlt (fun j h => hn j h (by omega)) he).symm
   · (repeat' (first | refine Za8 ?_ | refine Za1 ?_ | refine Za6 ?_ | (apply Za9; (first | exact Za3 rfl | exact Za4 rfl | (apply Za7; exact Zb1 rfl rfl) | (apply Zah; first | exact WT_teq rfl rfl | exact Zau rfl rfl | exact Zbf rfl rfl) | (apply Zak; exact Zar rfl rfl rfl) | (apply Zax; exact Zb3 rfl rfl)); exact rfl) | refine Zaa ?_ | refine Zag ?_ | refine Zaq ?_ | (refine Zac rfl (fun hb => ?_) (fun hb => ?_) <;> (repeat (first | replace hb := Zam hb | replace hb := Zan hb)) <;> (try (exfalso; omega)))))
     all_goals (try (exfalso; simp_all; done))
     exact ⟨k + 1, ⟨by omega, fun j h h2 => by
       by_cases e : j = k
       · subst e; exact he
       · exact hn j (by omega) h2⟩, by omega, Zae (by repeat (first | exact Zai | refine Zad rfl ?_)) (List.Sublist.refl _)⟩
 · have hk9 : k = l.length := by omega
   subst hk9
   (repeat' (first | refine Za8 ?_ | refine Za1 ?_ | refine Za6 ?_ | (apply Za9; (first | exact Za3 rfl | exact Za4 rfl | (apply Zah; exact Zau rfl rfl) | (apply Zax; exact Zb3 rfl rfl)); exact rfl) | refine Zaq ?_ | refine Zbk ?_ | (refine Zac rfl (fun hb => ?_) (fun hb => ?_) <;> (repeat (first | replace hb := Zam hb | replace hb := Zan hb)) <;> (try (exfalso; omega)))))
   refine ⟨.inr rfl, ret1 rfl (.tmp rfl) (List.nil_sublist _) ⟨congrArg (exI .i64) ?_, rfl⟩⟩
   exact (indexF_miss fun j h => hn j h h).symm
set_option maxRecDepth 100000 in
theorem sameInts_any (a b : List Int) : FnC Tryz.prog 73 [isl eI a, isl eI b] [] (fun p loc => p = exB (decide (a = b)) ∧ loc = []) := by
 refine Zbe (i := 0) rfl Zbl fun ha => ?_
 refine Zbe (i := 1) rfl Zbl fun hb => ?_
 replace ha := ha.1
 replace hb := hb.1
 simp only [maxLen] at ha hb
 refine Zb7 Tryz.func73 rfl Tryz.ntmps73 rfl fun w0 F0 out => ?_
 by_cases hl : a.length = b.length
 · (repeat' (first | refine Za8 ?_ | refine Za1 ?_ | refine Za6 ?_ | (apply Za9; (first | exact Za3 rfl | exact Za4 rfl | (apply Zah; exact Zc3 rfl rfl) | (apply Zax; exact Zb3 rfl rfl)); exact rfl) | refine Zaa ?_ | refine Zag ?_ | (refine Zac rfl (fun hb => ?_) (fun hb => ?_) <;> (repeat (first | replace hb := Zam hb | replace hb := Zan hb | replace hb := Zbr hb | replace hb := Zbs hb)) <;> (try (exfalso; omega)))))
   all_goals (try (exfalso; omega))
   refine Zbv (fun k : Nat => ([(0, isl eI a), (1, isl eI b), (5, exI .i64 k)], [])) (fun k => k ≤ a.length ∧ a.take k = b.take k) (fun k => a.length - k) 0 ?_ ⟨Nat.zero_le _, rfl⟩ fun k hk => ?_
   · exact Zae (by repeat (first | exact Zai | refine Zad rfl ?_)) (List.Sublist.refl _)
   obtain ⟨hk, ht⟩ := hk
   by_cases hlt : k < a.length
   · by_cases he : a[k] = b[k]'(by omega)
     · (repeat' (first | refine Za8 ?_ | refine Za1 ?_ | refine Za6 ?_ | (apply Za9; (first | exact Za3 rfl | (apply Zah; exact Zau rfl rfl) | (apply Zax; exact Zb3 rfl rfl)); exact rfl) | refine Zaa ?_ | refine Zag ?_ | (refine Zac rfl (fun hb => ?_) (fun hb => ?_) <;> (repeat (first | replace hb := Zam hb | replace hb := Zan hb)) <;> (try (exfalso; omega)))))
       (refine Zbx 9 rfl ?_)
       all_goals ((apply Za2 0 rfl (by decide +kernel) rfl (by repeat (first | exact Za5)) Za0; (first | exact Za3 rfl); exact rfl))
       all_goals ((apply Za2 1 rfl (by decide +kernel) rfl (by repeat (first | exact Za5)) Za0; (first | exact Za3 rfl); exact rfl))
       all_goals ((apply Za2 2 rfl (by decide +kernel) rfl (by repeat (first | exact Za5)) Za0; (first | (apply Zak; first | exact Zar rfl rfl rfl)); exact rfl))
       all_goals ((apply Zb0 3 rfl (by decide +kernel) rfl (by decide +kernel) (by repeat (exact Za5)) Za0; ((apply Za7; exact Zb1 rfl rfl)); exact rfl))
       all_goals ((apply Za2 4 rfl (by decide +kernel) rfl (by repeat (first | exact Za5)) Za0; (first | exact Za3 rfl); exact rfl))
       all_goals ((apply Za2 5 rfl (by decide +kernel) rfl (by repeat (first | exact Za5)) Za0; (first | exact Za3 rfl); exact rfl))
       all_goals ((apply Za2 6 rfl (by decide +kernel) rfl (by repeat (first | exact Za5)) Za0; (first | (apply Zak; first | exact Zar rfl rfl rfl)); exact rfl))
       all_goals ((apply Zb0 7 rfl (by decide +kernel) rfl (by decide +kernel) (by repeat (exact Za5)) Za0; ((apply Za7; exact Zb1 rfl rfl)); exact rfl))
       all_goals ((apply Za2 8 rfl (by decide +kernel) rfl (by repeat (first | exact Za5)) Za0; (first | (apply Zah; first | exact Zc3 rfl rfl)); exact rfl))
       all_goals (refine Zb9 (by decide +kernel) ?_)
       all_goals ((repeat' (first | refine Za1 ?_ | refine Za6 ?_ | (apply Za9; (first | exact Za3 rfl | exact Za4 rfl | (apply Zah; exact Zbf rfl rfl)); exact rfl) | refine Zag ?_ | (refine Zac rfl (fun hb => ?_) (fun hb => ?_) <;> (repeat (first | replace hb := Zam hb | replace hb := Zan hb | replace hb := Zbr hb | replace hb := Zbs hb)) <;> (try (exfalso; omega))))))
       all_goals (try (exfalso; simp_all; done))
       exact ⟨k + 1, ⟨by omega, by rw [List.take_succ_eq_append_getElem hlt, List.take_succ_eq_append_getElem (by omega), ht, he]⟩, by omega, Zae (by repeat (first | exact Zai | refine Zad rfl ?_)) (List.Sublist.refl _)⟩
     · (repeat' (first | refine Za8 ?_ | refine Za1 ?_ | refine Za6 ?_ | (apply Za9; (first | exact Za3 rfl | (apply Zah; exact Zau rfl rfl) | (apply Zax; exact Zb3 rfl rfl)); exact rfl) | refine Zaa ?_ | refine Zag ?_ | (refine Zac rfl (fun hb => ?_) (fun hb => ?_) <;> (repeat (first | replace hb := Zam hb | replace hb := Zan hb)) <;> (try (exfalso; omega)))))
       (refine Zbx 9 rfl ?_)
       all_goals ((apply Za2 0 rfl (by decide +kernel) rfl (by repeat (first | exact Za5)) Za0; (first | exact Za3 rfl); exact rfl))
       all_goals ((apply Za2 1 rfl (by decide +kernel) rfl (by repeat (first | exact Za5)) Za0; (first | exact Za3 rfl); exact rfl))
       all_goals ((apply Za2 2 rfl (by decide +kernel) rfl (by repeat (first | exact Za5)) Za0; (first | (apply Zak; first | exact Zar rfl rfl rfl)); exact rfl))
       all_goals ((apply Zb0 3 rfl (by decide +kernel) rfl (by decide +kernel) (by repeat (exact Za5)) Za0; ((apply Za7; exact Zb1 rfl rfl)); exact rfl))
       all_goals ((apply Za2 4 rfl (by decide +kernel) rfl (by repeat (first | exact Za5)) Za0; (first | exact Za3 rfl); exact rfl))
       all_goals ((apply Za2 5 rfl (by decide +kernel) rfl (by repeat (first | exact Za5)) Za0; (first | exact Za3 rfl); exact rfl))
       all_goals ((apply Za2 6 rfl (by decide +kernel) rfl (by repeat (first | exact Za5)) Za0; (first | (apply Zak; first | exact Zar rfl rfl rfl)); exact rfl))
       all_goals ((apply Zb0 7 rfl (by decide +kernel) rfl (by decide +kernel) (by repeat (exact Za5)) Za0; ((apply Za7; exact Zb1 rfl rfl)); exact rfl))
       all_goals ((apply Za2 8 rfl (by decide +kernel) rfl (by repeat (first | exact Za5)) Za0; (first | (apply Zah; first | exact Zc3 rfl rfl)); exact rfl))
       all_goals (refine Zb9 (by decide +kernel) ?_)
       all_goals ((repeat' (first | refine Za8 ?_ | refine Za1 ?_ | refine Za6 ?_ | (apply Za9; (exact Za4 rfl); exact rfl) | refine Zaq ?_ | (refine Zac rfl (fun hb => ?_) (fun hb => ?_) <;> (repeat (first | replace hb := Zam hb | replace hb := Zan hb | replace hb := Zbr hb | replace hb := Zbs hb)) <;> (try (exfalso; omega))))))
       all_goals (try (exfalso; simp_all; done))
       refine ⟨.inr rfl, ret1 rfl (.tmp rfl) (List.nil_sublist _) ⟨congrArg exB ?_, rfl⟩⟩
       exact (decide_eq_false fun e => he (by subst e; rfl)).symm
   · have hk9 : k = a.length := by omega
     subst hk9
     rw [List.take_length, hl, List.take_length] at ht
     (repeat' (first | refine Za8 ?_ | refine Za1 ?_ | refine Za6 ?_ | (apply Za9; (first | exact Za3 rfl | exact Za4 rfl | (apply Zah; exact Zau rfl rfl) | (apply Zax; exact Zb3 rfl rfl)); exact rfl) | refine Zaq ?_ | refine Zbk ?_ | (refine Zac rfl (fun hb => ?_) (fun hb => ?_) <;> (repeat (first | replace hb := Zam hb | replace hb := Zan hb)) <;> (try (exfalso; omega)))))
     refine ⟨.inr rfl, ret1 rfl (.tmp rfl) (List.nil_sublist _) ⟨congrArg exB ?_, rfl⟩⟩
     exact (decide_eq_true ht).symm
 · (repeat' (first | refine Za8 ?_ | refine Za1 ?_ | refine Za6 ?_ | (apply Za9; (first | exact Za3 rfl | exact Za4 rfl | (apply Zah; exact Zc3 rfl rfl) | (apply Zax; exact Zb3 rfl rfl)); exact rfl) | refine Zaq ?_ | (refine Zac rfl (fun hb => ?_) (fun hb => ?_) <;> (repeat (first | replace hb := Zam hb | replace hb := Zan hb | replace hb := Zbr hb | replace hb := Zbs hb)) <;> (try (exfalso; omega)))))
   all_goals (try (exfalso; omega))
   refine ⟨.inr rfl, ret1 rfl (.tmp rfl) (List.nil_sublist _) ⟨congrArg exB ?_, rfl⟩⟩
   exact (decide_eq_false fun e => hl (by rw [e])).symm
end Go.Proofs.YthldagplhklbnaaGreatDoor
namespace Go.Proofs.YthldagplhklbnaaGreatDoor
open Go Go.RowKit Go.Kx Go.Fr
set_option maxRecDepth 100000 in
theorem indexStr_any (l : List (List UInt8)) (s : List UInt8) (hl : l.length < 2 ^ 62) : FnC Tryz.prog 108 [isl eStr l, exT s] [] (fun p loc => p = exI .i64 (indexF l s) ∧ loc = []) := by
 refine Zb7 Tryz.func108 rfl Tryz.ntmps108 rfl fun w0 F0 out => ?_
 (repeat' (first | refine Za8 ?_ | refine Za1 ?_ | refine Za6 ?_ | (apply Za9; (first | exact Za3 rfl | exact Za4 rfl | (apply Zax; exact Zb3 rfl rfl)); exact rfl) | refine Zaa ?_))
 refine Zbv (fun k : Nat => ([(0, isl eStr l), (1, exT s), (6, isl eStr l), (7, exI .i64 l.length), (8, exI .i64 k)], [])) (fun k => k ≤ l.length ∧ ∀ j (h : j < k) (h2 : j < l.length), l[j] ≠ s) (fun k => l.length - k) 0 ?_ ⟨Nat.zero_le _, fun j h => absurd h (Nat.not_lt_zero j)⟩ fun k hk => ?_
 · exact Zae (by repeat (first | exact Zai | refine Zad rfl ?_)) (List.Sublist.refl _)
 obtain ⟨hk, hn⟩ := hk
 by_cases hlt : k < l.length
 · by_cases he : s = l[k]
   · (repeat' (first | refine Za8 ?_ | refine Za1 ?_ | refine Za6 ?_ | (apply Za9; (first | exact Za3 rfl | exact Za4 rfl | (apply Za7; exact Zb1 rfl rfl) | (apply Zah; first | exact WT_teq rfl rfl | exact Zau rfl rfl | exact Zbf rfl rfl) | (apply Zak; exact Zar rfl rfl rfl)); exact rfl) | refine Zaa ?_ | refine Zag ?_ | refine Zaq ?_ | (refine Zac rfl (fun hb => ?_) (fun hb => ?_) <;> (repeat (first | replace hb := Zam hb | replace hb := Zan hb)) <;> (try (exfalso; omega)))))
     all_goals (try (exfalso; simp_all; done))
     refine ⟨.inr rfl, ret1 rfl (.tmp rfl) (List.nil_sublist _) ⟨congrArg (exI .i64) ?_, rfl⟩⟩
     exact (indexF_hit hlt (fun j h => hn j h (by omega)) he.symm).symm
   · (repeat' (first | refine Za8 ?_ | refine Za1 ?_ | refine Za6 ?_ | (apply Za9; (first | exact Za3 rfl | exact Za4 rfl | (apply Za7; exact Zb1 rfl rfl) | (apply Zah; first | exact WT_teq rfl rfl | exact Zau rfl rfl | exact Zbf rfl rfl) | (apply Zak; exact Zar rfl rfl rfl)); exact rfl) | refine Zaa ?_ | refine Zag ?_ | refine Zaq ?_ | (refine Zac rfl (fun hb => ?_) (fun hb => ?_) <;> (repeat (first | replace hb := Zam hb | replace hb := Zan hb)) <;> (try (exfalso; omega)))))
     all_goals (try (exfalso; simp_all; done))
     exact ⟨k + 1, ⟨by omega, fun j h h2 => by
       by_cases e : j = k
       · subst e; exact fun e => he e.symm
       · exact hn j (by omega) h2⟩, by omega, Zae (by repeat (first | exact Zai | refine Zad rfl ?_)) (List.Sublist.refl _)⟩
 · have hk9 : k = l.length := by omega
   subst hk9
   (repeat' (first | refine Za8 ?_ | refine Za1 ?_ | refine Za6 ?_ | (apply Za9; (first | exact Za4 rfl | (apply Zah; exact Zau rfl rfl)); exact rfl) | refine Zaq ?_ | refine Zbk ?_ | (refine Zac rfl (fun hb => ?_) (fun hb => ?_) <;> (repeat (first | replace hb := Zam hb | replace hb := Zan hb)) <;> (try (exfalso; omega)))))
   refine ⟨.inr rfl, ret1 rfl (.tmp rfl) (List.nil_sublist _) ⟨congrArg (exI .i64) ?_, rfl⟩⟩
   exact (indexF_miss fun j h => hn j h h).symm
set_option maxRecDepth 100000 in
theorem containsStr_any (l : List (List UInt8)) (s : List UInt8) (hl : l.length < 2 ^ 62) : FnC Tryz.prog 96 [isl eStr l, exT s] [] (fun p loc => p = exB (decide (s ∈ l)) ∧ loc = []) := by
 refine Zb7 Tryz.func96 rfl Tryz.ntmps96 rfl fun w0 F0 out => ?_
 have hI := indexStr_any l s hl
 (repeat' (first | refine Za8 ?_ | refine Za1 ?_ | refine Za6 ?_ | (apply Za9; (first | exact Za3 rfl | exact Za4 rfl | (apply Zah; exact Zcp rfl rfl)); exact rfl) | refine Zaq ?_ | (apply Zaj; exact rfl; (apply Zao; (refine Zaw Tryz.func108 rfl hI rfl ?_; rintro _ _ ⟨rfl, rfl⟩)))))
 refine ⟨.inr rfl, ret1 rfl (.tmp rfl) (List.nil_sublist _) ⟨congrArg exB ?_, rfl⟩⟩
 exact decide_eq_decide.2 (indexF_nonneg l s)
def words14 : List (List UInt8) := [
 [99, 111, 109, 112, 101, 116, 105, 116, 105, 111, 110],
 [99, 114, 105, 116, 101, 114, 105, 111, 110],
 [102, 114, 111, 109],
 [116, 111],
 [115, 116, 101, 112],
 [115, 117, 109],
 [109, 101, 97, 110],
 [116, 114, 105, 109],
 [109, 101, 100, 105, 97, 110],
 [114, 101, 118, 101, 114, 115, 101],
 [98, 111, 110, 117, 115],
 [118, 97, 108, 117, 101],
 [109, 111, 115, 116],
 [109, 97, 108, 117, 115],
 [116, 105, 101],
 [116, 111, 116, 97, 108],
 [115, 99, 111, 114, 101],
 [104, 105, 103, 104, 101, 115, 116],
 [114, 117, 108, 101],
 [108, 111, 116],
 [114, 111, 117, 110, 100],
 [112, 97, 110, 101, 108],
 [113, 117, 111, 116, 97],
 [111, 118, 101, 114],
 [117, 110, 100, 101, 114],
 [108, 111, 116, 115],
 [102, 114, 101, 101],
 [112, 108, 97, 99, 101, 115],
 [112, 114, 105, 122, 101, 115],
 [112, 111, 105, 110, 116, 115],
 [98, 101, 115, 116],
 [108, 101, 97, 115, 116],
 [103, 114, 101, 97, 116, 101, 115, 116],
 [105, 102],
 [117, 112, 116, 111],
 [116, 104, 101, 110],
 [101, 108, 115, 101],
 [101, 110, 100]]
end Go.Proofs.YthldagplhklbnaaGreatDoor
namespace Go.Proofs.YthldagplhklbnaaGreatDoor
open Go Go.RowKit Go.Kx Go.Fr
set_option maxHeartbeats 4000000 in
set_option maxRecDepth 100000 in
theorem word_any (s : List UInt8) : FnC Tryz.prog 100 [exT s] [] (fun p loc => p = exB (decide (s ∈ words14)) ∧ loc = []) := by
 refine Zb7 Tryz.func100 rfl Tryz.ntmps100 rfl fun w0 F0 out => ?_
 by_cases h0 : s = [99, 111, 109, 112, 101, 116, 105, 116, 105, 111, 110]
 · (repeat' (first | refine Za8 ?_ | refine Za1 ?_ | refine Za6 ?_ | (apply Za9; (first | exact Za3 rfl | exact Za4 rfl | exact Zc6 rfl rfl (by assumption) | exact Zc7 rfl rfl (by assumption)); exact rfl) | refine Zaa ?_ | refine Zag ?_ | refine Zaq ?_ | refine Zb4 rfl ?_ | refine Zb8 rfl ?_))
   exact ⟨by first | exact .inr rfl | exact .inl rfl, ret1 rfl (.tmp rfl) (List.nil_sublist _) ⟨congrArg exB (decide_eq_true (by rw [h0]; decide)).symm, rfl⟩⟩
 by_cases h1 : s = [99, 114, 105, 116, 101, 114, 105, 111, 110]
 · (repeat' (first | refine Za8 ?_ | refine Za1 ?_ | refine Za6 ?_ | (apply Za9; (first | exact Za3 rfl | exact Za4 rfl | exact Zc6 rfl rfl (by assumption) | exact Zc7 rfl rfl (by assumption)); exact rfl) | refine Zaa ?_ | refine Zag ?_ | refine Zaq ?_ | refine Zb4 rfl ?_ | refine Zb8 rfl ?_))
   exact ⟨by first | exact .inr rfl | exact .inl rfl, ret1 rfl (.tmp rfl) (List.nil_sublist _) ⟨congrArg exB (decide_eq_true (by rw [h1]; decide)).symm, rfl⟩⟩
 by_cases h2 : s = [102, 114, 111, 109]
 · (repeat' (first | refine Za8 ?_ | refine Za1 ?_ | refine Za6 ?_ | (apply Za9; (first | exact Za3 rfl | exact Za4 rfl | exact Zc6 rfl rfl (by assumption) | exact Zc7 rfl rfl (by assumption)); exact rfl) | refine Zaa ?_ | refine Zag ?_ | refine Zaq ?_ | refine Zb4 rfl ?_ | refine Zb8 rfl ?_))
   exact ⟨by first | exact .inr rfl | exact .inl rfl, ret1 rfl (.tmp rfl) (List.nil_sublist _) ⟨congrArg exB (decide_eq_true (by rw [h2]; decide)).symm, rfl⟩⟩
 by_cases h3 : s = [116, 111]
 · (repeat' (first | refine Za8 ?_ | refine Za1 ?_ | refine Za6 ?_ | (apply Za9; (first | exact Za3 rfl | exact Za4 rfl | exact Zc6 rfl rfl (by assumption) | exact Zc7 rfl rfl (by assumption)); exact rfl) | refine Zaa ?_ | refine Zag ?_ | refine Zaq ?_ | refine Zb4 rfl ?_ | refine Zb8 rfl ?_))
   exact ⟨by first | exact .inr rfl | exact .inl rfl, ret1 rfl (.tmp rfl) (List.nil_sublist _) ⟨congrArg exB (decide_eq_true (by rw [h3]; decide)).symm, rfl⟩⟩
 by_cases h4 : s = [115, 116, 101, 112]
 · (repeat' (first | refine Za8 ?_ | refine Za1 ?_ | refine Za6 ?_ | (apply Za9; (first | exact Za3 rfl | exact Za4 rfl | exact Zc6 rfl rfl (by assumption) | exact Zc7 rfl rfl (by assumption)); exact rfl) | refine Zaa ?_ | refine Zag ?_ | refine Zaq ?_ | refine Zb4 rfl ?_ | refine Zb8 rfl ?_))
   exact ⟨by first | exact .inr rfl | exact .inl rfl, ret1 rfl (.tmp rfl) (List.nil_sublist _) ⟨congrArg exB (decide_eq_true (by rw [h4]; decide)).symm, rfl⟩⟩
 by_cases h5 : s = [115, 117, 109]
 · (repeat' (first | refine Za8 ?_ | refine Za1 ?_ | refine Za6 ?_ | (apply Za9; (first | exact Za3 rfl | exact Za4 rfl | exact Zc6 rfl rfl (by assumption) | exact Zc7 rfl rfl (by assumption)); exact rfl) | refine Zaa ?_ | refine Zag ?_ | refine Zaq ?_ | refine Zb4 rfl ?_ | refine Zb8 rfl ?_))
   exact ⟨by first | exact .inr rfl | exact .inl rfl, ret1 rfl (.tmp rfl) (List.nil_sublist _) ⟨congrArg exB (decide_eq_true (by rw [h5]; decide)).symm, rfl⟩⟩
 by_cases h6 : s = [109, 101, 97, 110]
 · (repeat' (first | refine Za8 ?_ | refine Za1 ?_ | refine Za6 ?_ | (apply Za9; (first | exact Za3 rfl | exact Za4 rfl | exact Zc6 rfl rfl (by assumption) | exact Zc7 rfl rfl (by assumption)); exact rfl) | refine Zaa ?_ | refine Zag ?_ | refine Zaq ?_ | refine Zb4 rfl ?_ | refine Zb8 rfl ?_))
   exact ⟨by first | exact .inr rfl | exact .inl rfl, ret1 rfl (.tmp rfl) (List.nil_sublist _) ⟨congrArg exB (decide_eq_true (by rw [h6]; decide)).symm, rfl⟩⟩
 by_cases h7 : s = [116, 114, 105, 109]
 · (repeat' (first | refine Za8 ?_ | refine Za1 ?_ | refine Za6 ?_ | (apply Za9; (first | exact Za3 rfl | exact Za4 rfl | exact Zc6 rfl rfl (by assumption) | exact Zc7 rfl rfl (by assumption)); exact rfl) | refine Zaa ?_ | refine Zag ?_ | refine Zaq ?_ | refine Zb4 rfl ?_ | refine Zb8 rfl ?_))
   exact ⟨by first | exact .inr rfl | exact .inl rfl, ret1 rfl (.tmp rfl) (List.nil_sublist _) ⟨congrArg exB (decide_eq_true (by rw [h7]; decide)).symm, rfl⟩⟩
 by_cases h8 : s = [109, 101, 100, 105, 97, 110]
 · (repeat' (first | refine Za8 ?_ | refine Za1 ?_ | refine Za6 ?_ | (apply Za9; (first | exact Za3 rfl | exact Za4 rfl | exact Zc6 rfl rfl (by assumption) | exact Zc7 rfl rfl (by assumption)); exact rfl) | refine Zaa ?_ | refine Zag ?_ | refine Zaq ?_ | refine Zb4 rfl ?_ | refine Zb8 rfl ?_))
   exact ⟨by first | exact .inr rfl | exact .inl rfl, ret1 rfl (.tmp rfl) (List.nil_sublist _) ⟨congrArg exB (decide_eq_true (by rw [h8]; decide)).symm, rfl⟩⟩
 by_cases h9 : s = [114, 101, 118, 101, 114, 115, 101]
 · (repeat' (first | refine Za8 ?_ | refine Za1 ?_ | refine Za6 ?_ | (apply Za9; (first | exact Za3 rfl | exact Za4 rfl | exact Zc6 rfl rfl (by assumption) | exact Zc7 rfl rfl (by assumption)); exact rfl) | refine Zaa ?_ | refine Zag ?_ | refine Zaq ?_ | refine Zb4 rfl ?_ | refine Zb8 rfl ?_))
   exact ⟨by first | exact .inr rfl | exact .inl rfl, ret1 rfl (.tmp rfl) (List.nil_sublist _) ⟨congrArg exB (decide_eq_true (by rw [h9]; decide)).symm, rfl⟩⟩
 by_cases h10 : s = [98, 111, 110, 117, 115]
 · (repeat' (first | refine Za8 ?_ | refine Za1 ?_ | refine Za6 ?_ | (apply Za9; (first | exact Za3 rfl | exact Za4 rfl | exact Zc6 rfl rfl (by assumption) | exact Zc7 rfl rfl (by assumption)); exact rfl) | refine Zaa ?_ | refine Zag ?_ | refine Zaq ?_ | refine Zb4 rfl ?_ | refine Zb8 rfl ?_))
   exact ⟨by first | exact .inr rfl | exact .inl rfl, ret1 rfl (.tmp rfl) (List.nil_sublist _) ⟨congrArg exB (decide_eq_true (by rw [h10]; decide)).symm, rfl⟩⟩
 by_cases h11 : s = [118, 97, 108, 117, 101]
 · (repeat' (first | refine Za8 ?_ | refine Za1 ?_ | refine Za6 ?_ | (apply Za9; (first | exact Za3 rfl | exact Za4 rfl | exact Zc6 rfl rfl (by assumption) | exact Zc7 rfl rfl (by assumption)); exact rfl) | refine Zaa ?_ | refine Zag ?_ | refine Zaq ?_ | refine Zb4 rfl ?_ | refine Zb8 rfl ?_))
   exact ⟨by first | exact .inr rfl | exact .inl rfl, ret1 rfl (.tmp rfl) (List.nil_sublist _) ⟨congrArg exB (decide_eq_true (by rw [h11]; decide)).symm, rfl⟩⟩
 by_cases h12 : s = [109, 111, 115, 116]
 · (repeat' (first | refine Za8 ?_ | refine Za1 ?_ | refine Za6 ?_ | (apply Za9; (first | exact Za3 rfl | exact Za4 rfl | exact Zc6 rfl rfl (by assumption) | exact Zc7 rfl rfl (by assumption)); exact rfl) | refine Zaa ?_ | refine Zag ?_ | refine Zaq ?_ | refine Zb4 rfl ?_ | refine Zb8 rfl ?_))
   exact ⟨by first | exact .inr rfl | exact .inl rfl, ret1 rfl (.tmp rfl) (List.nil_sublist _) ⟨congrArg exB (decide_eq_true (by rw [h12]; decide)).symm, rfl⟩⟩
 by_cases h13 : s = [109, 97, 108, 117, 115]
 · (repeat' (first | refine Za8 ?_ | refine Za1 ?_ | refine Za6 ?_ | (apply Za9; (first | exact Za3 rfl | exact Za4 rfl | exact Zc6 rfl rfl (by assumption) | exact Zc7 rfl rfl (by assumption)); exact rfl) | refine Zaa ?_ | refine Zag ?_ | refine Zaq ?_ | refine Zb4 rfl ?_ | refine Zb8 rfl ?_))
   exact ⟨by first | exact .inr rfl | exact .inl rfl, ret1 rfl (.tmp rfl) (List.nil_sublist _) ⟨congrArg exB (decide_eq_true (by rw [h13]; decide)).symm, rfl⟩⟩
 by_cases h14 : s = [116, 105, 101]
 · (repeat' (first | refine Za8 ?_ | refine Za1 ?_ | refine Za6 ?_ | (apply Za9; (first | exact Za3 rfl | exact Za4 rfl | exact Zc6 rfl rfl (by assumption) | exact Zc7 rfl rfl (by assumption)); exact rfl) | refine Zaa ?_ | refine Zag ?_ | refine Zaq ?_ | refine Zb4 rfl ?_ | refine Zb8 rfl ?_))
   exact ⟨by first | exact .inr rfl | exact .inl rfl, ret1 rfl (.tmp rfl) (List.nil_sublist _) ⟨congrArg exB (decide_eq_true (by rw [h14]; decide)).symm, rfl⟩⟩
 by_cases h15 : s = [116, 111, 116, 97, 108]
 · (repeat' (first | refine Za8 ?_ | refine Za1 ?_ | refine Za6 ?_ | (apply Za9; (first | exact Za3 rfl | exact Za4 rfl | exact Zc6 rfl rfl (by assumption) | exact Zc7 rfl rfl (by assumption)); exact rfl) | refine Zaa ?_ | refine Zag ?_ | refine Zaq ?_ | refine Zb4 rfl ?_ | refine Zb8 rfl ?_))
   exact ⟨by first | exact .inr rfl | exact .inl rfl, ret1 rfl (.tmp rfl) (List.nil_sublist _) ⟨congrArg exB (decide_eq_true (by rw [h15]; decide)).symm, rfl⟩⟩
 by_cases h16 : s = [115, 99, 111, 114, 101]
 · (repeat' (first | refine Za8 ?_ | refine Za1 ?_ | refine Za6 ?_ | (apply Za9; (first | exact Za3 rfl | exact Za4 rfl | exact Zc6 rfl rfl (by assumption) | exact Zc7 rfl rfl (by assumption)); exact rfl) | refine Zaa ?_ | refine Zag ?_ | refine Zaq ?_ | refine Zb4 rfl ?_ | refine Zb8 rfl ?_))
   exact ⟨by first | exact .inr rfl | exact .inl rfl, ret1 rfl (.tmp rfl) (List.nil_sublist _) ⟨congrArg exB (decide_eq_true (by rw [h16]; decide)).symm, rfl⟩⟩
 by_cases h17 : s = [104, 105, 103, 104, 101, 115, 116]
 · (repeat' (first | refine Za8 ?_ | refine Za1 ?_ | refine Za6 ?_ | (apply Za9; (first | exact Za3 rfl | exact Za4 rfl | exact Zc6 rfl rfl (by assumption) | exact Zc7 rfl rfl (by assumption)); exact rfl) | refine Zaa ?_ | refine Zag ?_ | refine Zaq ?_ | refine Zb4 rfl ?_ | refine Zb8 rfl ?_))
   exact ⟨by first | exact .inr rfl | exact .inl rfl, ret1 rfl (.tmp rfl) (List.nil_sublist _) ⟨congrArg exB (decide_eq_true (by rw [h17]; decide)).symm, rfl⟩⟩
 by_cases h18 : s = [114, 117, 108, 101]
 · (repeat' (first | refine Za8 ?_ | refine Za1 ?_ | refine Za6 ?_ | (apply Za9; (first | exact Za3 rfl | exact Za4 rfl | exact Zc6 rfl rfl (by assumption) | exact Zc7 rfl rfl (by assumption)); exact rfl) | refine Zaa ?_ | refine Zag ?_ | refine Zaq ?_ | refine Zb4 rfl ?_ | refine Zb8 rfl ?_))
   exact ⟨by first | exact .inr rfl | exact .inl rfl, ret1 rfl (.tmp rfl) (List.nil_sublist _) ⟨congrArg exB (decide_eq_true (by rw [h18]; decide)).symm, rfl⟩⟩
 by_cases h19 : s = [108, 111, 116]
 · (repeat' (first | refine Za8 ?_ | refine Za1 ?_ | refine Za6 ?_ | (apply Za9; (first | exact Za3 rfl | exact Za4 rfl | exact Zc6 rfl rfl (by assumption) | exact Zc7 rfl rfl (by assumption)); exact rfl) | refine Zaa ?_ | refine Zag ?_ | refine Zaq ?_ | refine Zb4 rfl ?_ | refine Zb8 rfl ?_))
   exact ⟨by first | exact .inr rfl | exact .inl rfl, ret1 rfl (.tmp rfl) (List.nil_sublist _) ⟨congrArg exB (decide_eq_true (by rw [h19]; decide)).symm, rfl⟩⟩
 by_cases h20 : s = [114, 111, 117, 110, 100]
 · (repeat' (first | refine Za8 ?_ | refine Za1 ?_ | refine Za6 ?_ | (apply Za9; (first | exact Za3 rfl | exact Za4 rfl | exact Zc6 rfl rfl (by assumption) | exact Zc7 rfl rfl (by assumption)); exact rfl) | refine Zaa ?_ | refine Zag ?_ | refine Zaq ?_ | refine Zb4 rfl ?_ | refine Zb8 rfl ?_))
   exact ⟨by first | exact .inr rfl | exact .inl rfl, ret1 rfl (.tmp rfl) (List.nil_sublist _) ⟨congrArg exB (decide_eq_true (by rw [h20]; decide)).symm, rfl⟩⟩
 by_cases h21 : s = [112, 97, 110, 101, 108]
 · (repeat' (first | refine Za8 ?_ | refine Za1 ?_ | refine Za6 ?_ | (apply Za9; (first | exact Za3 rfl | exact Za4 rfl | exact Zc6 rfl rfl (by assumption) | exact Zc7 rfl rfl (by assumption)); exact rfl) | refine Zaa ?_ | refine Zag ?_ | refine Zaq ?_ | refine Zb4 rfl ?_ | refine Zb8 rfl ?_))
   exact ⟨by first | exact .inr rfl | exact .inl rfl, ret1 rfl (.tmp rfl) (List.nil_sublist _) ⟨congrArg exB (decide_eq_true (by rw [h21]; decide)).symm, rfl⟩⟩
 by_cases h22 : s = [113, 117, 111, 116, 97]
 · (repeat' (first | refine Za8 ?_ | refine Za1 ?_ | refine Za6 ?_ | (apply Za9; (first | exact Za3 rfl | exact Za4 rfl | exact Zc6 rfl rfl (by assumption) | exact Zc7 rfl rfl (by assumption)); exact rfl) | refine Zaa ?_ | refine Zag ?_ | refine Zaq ?_ | refine Zb4 rfl ?_ | refine Zb8 rfl ?_))
   exact ⟨by first | exact .inr rfl | exact .inl rfl, ret1 rfl (.tmp rfl) (List.nil_sublist _) ⟨congrArg exB (decide_eq_true (by rw [h22]; decide)).symm, rfl⟩⟩
 by_cases h23 : s = [111, 118, 101, 114]
 · (repeat' (first | refine Za8 ?_ | refine Za1 ?_ | refine Za6 ?_ | (apply Za9; (first | exact Za3 rfl | exact Za4 rfl | exact Zc6 rfl rfl (by assumption) | exact Zc7 rfl rfl (by assumption)); exact rfl) | refine Zaa ?_ | refine Zag ?_ | refine Zaq ?_ | refine Zb4 rfl ?_ | refine Zb8 rfl ?_))
   exact ⟨by first | exact .inr rfl | exact .inl rfl, ret1 rfl (.tmp rfl) (List.nil_sublist _) ⟨congrArg exB (decide_eq_true (by rw [h23]; decide)).symm, rfl⟩⟩
 by_cases h24 : s = [117, 110, 100, 101, 114]
 · (repeat' (first | refine Za8 ?_ | refine Za1 ?_ | refine Za6 ?_ | (apply Za9; (first | exact Za3 rfl | exact Za4 rfl | exact Zc6 rfl rfl (by assumption) | exact Zc7 rfl rfl (by assumption)); exact rfl) | refine Zaa ?_ | refine Zag ?_ | refine Zaq ?_ | refine Zb4 rfl ?_ | refine Zb8 rfl ?_))
   exact ⟨by first | exact .inr rfl | exact .inl rfl, ret1 rfl (.tmp rfl) (List.nil_sublist _) ⟨congrArg exB (decide_eq_true (by rw [h24]; decide)).symm, rfl⟩⟩
 by_cases h25 : s = [108, 111, 116, 115]
 · (repeat' (first | refine Za8 ?_ | refine Za1 ?_ | refine Za6 ?_ | (apply Za9; (first | exact Za3 rfl | exact Za4 rfl | exact Zc6 rfl rfl (by assumption) | exact Zc7 rfl rfl (by assumption)); exact rfl) | refine Zaa ?_ | refine Zag ?_ | refine Zaq ?_ | refine Zb4 rfl ?_ | refine Zb8 rfl ?_))
   exact ⟨by first | exact .inr rfl | exact .inl rfl, ret1 rfl (.tmp rfl) (List.nil_sublist _) ⟨congrArg exB (decide_eq_true (by rw [h25]; decide)).symm, rfl⟩⟩
 by_cases h26 : s = [102, 114, 101, 101]
 · (repeat' (first | refine Za8 ?_ | refine Za1 ?_ | refine Za6 ?_ | (apply Za9; (first | exact Za3 rfl | exact Za4 rfl | exact Zc6 rfl rfl (by assumption) | exact Zc7 rfl rfl (by assumption)); exact rfl) | refine Zaa ?_ | refine Zag ?_ | refine Zaq ?_ | refine Zb4 rfl ?_ | refine Zb8 rfl ?_))
   exact ⟨by first | exact .inr rfl | exact .inl rfl, ret1 rfl (.tmp rfl) (List.nil_sublist _) ⟨congrArg exB (decide_eq_true (by rw [h26]; decide)).symm, rfl⟩⟩
 by_cases h27 : s = [112, 108, 97, 99, 101, 115]
 · (repeat' (first | refine Za8 ?_ | refine Za1 ?_ | refine Za6 ?_ | (apply Za9; (first | exact Za3 rfl | exact Za4 rfl | exact Zc6 rfl rfl (by assumption) | exact Zc7 rfl rfl (by assumption)); exact rfl) | refine Zaa ?_ | refine Zag ?_ | refine Zaq ?_ | refine Zb4 rfl ?_ | refine Zb8 rfl ?_))
   exact ⟨by first | exact .inr rfl | exact .inl rfl, ret1 rfl (.tmp rfl) (List.nil_sublist _) ⟨congrArg exB (decide_eq_true (by rw [h27]; decide)).symm, rfl⟩⟩
 by_cases h28 : s = [112, 114, 105, 122, 101, 115]
 · (repeat' (first | refine Za8 ?_ | refine Za1 ?_ | refine Za6 ?_ | (apply Za9; (first | exact Za3 rfl | exact Za4 rfl | exact Zc6 rfl rfl (by assumption) | exact Zc7 rfl rfl (by assumption)); exact rfl) | refine Zaa ?_ | refine Zag ?_ | refine Zaq ?_ | refine Zb4 rfl ?_ | refine Zb8 rfl ?_))
   exact ⟨by first | exact .inr rfl | exact .inl rfl, ret1 rfl (.tmp rfl) (List.nil_sublist _) ⟨congrArg exB (decide_eq_true (by rw [h28]; decide)).symm, rfl⟩⟩
 by_cases h29 : s = [112, 111, 105, 110, 116, 115]
 · (repeat' (first | refine Za8 ?_ | refine Za1 ?_ | refine Za6 ?_ | (apply Za9; (first | exact Za3 rfl | exact Za4 rfl | exact Zc6 rfl rfl (by assumption) | exact Zc7 rfl rfl (by assumption)); exact rfl) | refine Zaa ?_ | refine Zag ?_ | refine Zaq ?_ | refine Zb4 rfl ?_ | refine Zb8 rfl ?_))
   exact ⟨by first | exact .inr rfl | exact .inl rfl, ret1 rfl (.tmp rfl) (List.nil_sublist _) ⟨congrArg exB (decide_eq_true (by rw [h29]; decide)).symm, rfl⟩⟩
 by_cases h30 : s = [98, 101, 115, 116]
 · (repeat' (first | refine Za8 ?_ | refine Za1 ?_ | refine Za6 ?_ | (apply Za9; (first | exact Za3 rfl | exact Za4 rfl | exact Zc6 rfl rfl (by assumption) | exact Zc7 rfl rfl (by assumption)); exact rfl) | refine Zaa ?_ | refine Zag ?_ | refine Zaq ?_ | refine Zb4 rfl ?_ | refine Zb8 rfl ?_))
   exact ⟨by first | exact .inr rfl | exact .inl rfl, ret1 rfl (.tmp rfl) (List.nil_sublist _) ⟨congrArg exB (decide_eq_true (by rw [h30]; decide)).symm, rfl⟩⟩
 by_cases h31 : s = [108, 101, 97, 115, 116]
 · (repeat' (first | refine Za8 ?_ | refine Za1 ?_ | refine Za6 ?_ | (apply Za9; (first | exact Za3 rfl | exact Za4 rfl | exact Zc6 rfl rfl (by assumption) | exact Zc7 rfl rfl (by assumption)); exact rfl) | refine Zaa ?_ | refine Zag ?_ | refine Zaq ?_ | refine Zb4 rfl ?_ | refine Zb8 rfl ?_))
   exact ⟨by first | exact .inr rfl | exact .inl rfl, ret1 rfl (.tmp rfl) (List.nil_sublist _) ⟨congrArg exB (decide_eq_true (by rw [h31]; decide)).symm, rfl⟩⟩
 by_cases h32 : s = [103, 114, 101, 97, 116, 101, 115, 116]
 · (repeat' (first | refine Za8 ?_ | refine Za1 ?_ | refine Za6 ?_ | (apply Za9; (first | exact Za3 rfl | exact Za4 rfl | exact Zc6 rfl rfl (by assumption) | exact Zc7 rfl rfl (by assumption)); exact rfl) | refine Zaa ?_ | refine Zag ?_ | refine Zaq ?_ | refine Zb4 rfl ?_ | refine Zb8 rfl ?_))
   exact ⟨by first | exact .inr rfl | exact .inl rfl, ret1 rfl (.tmp rfl) (List.nil_sublist _) ⟨congrArg exB (decide_eq_true (by rw [h32]; decide)).symm, rfl⟩⟩
 by_cases h33 : s = [105, 102]
 · (repeat' (first | refine Za8 ?_ | refine Za1 ?_ | refine Za6 ?_ | (apply Za9; (first | exact Za3 rfl | exact Za4 rfl | exact Zc6 rfl rfl (by assumption) | exact Zc7 rfl rfl (by assumption)); exact rfl) | refine Zaa ?_ | refine Zag ?_ | refine Zaq ?_ | refine Zb4 rfl ?_ | refine Zb8 rfl ?_))
   exact ⟨by first | exact .inr rfl | exact .inl rfl, ret1 rfl (.tmp rfl) (List.nil_sublist _) ⟨congrArg exB (decide_eq_true (by rw [h33]; decide)).symm, rfl⟩⟩
 by_cases h34 : s = [117, 112, 116, 111]
 · (repeat' (first | refine Za8 ?_ | refine Za1 ?_ | refine Za6 ?_ | (apply Za9; (first | exact Za3 rfl | exact Za4 rfl | exact Zc6 rfl rfl (by assumption) | exact Zc7 rfl rfl (by assumption)); exact rfl) | refine Zaa ?_ | refine Zag ?_ | refine Zaq ?_ | refine Zb4 rfl ?_ | refine Zb8 rfl ?_))
   exact ⟨by first | exact .inr rfl | exact .inl rfl, ret1 rfl (.tmp rfl) (List.nil_sublist _) ⟨congrArg exB (decide_eq_true (by rw [h34]; decide)).symm, rfl⟩⟩
 by_cases h35 : s = [116, 104, 101, 110]
 · (repeat' (first | refine Za8 ?_ | refine Za1 ?_ | refine Za6 ?_ | (apply Za9; (first | exact Za3 rfl | exact Za4 rfl | exact Zc6 rfl rfl (by assumption) | exact Zc7 rfl rfl (by assumption)); exact rfl) | refine Zaa ?_ | refine Zag ?_ | refine Zaq ?_ | refine Zb4 rfl ?_ | refine Zb8 rfl ?_))
   exact ⟨by first | exact .inr rfl | exact .inl rfl, ret1 rfl (.tmp rfl) (List.nil_sublist _) ⟨congrArg exB (decide_eq_true (by rw [h35]; decide)).symm, rfl⟩⟩
 by_cases h36 : s = [101, 108, 115, 101]
 · (repeat' (first | refine Za8 ?_ | refine Za1 ?_ | refine Za6 ?_ | (apply Za9; (first | exact Za3 rfl | exact Za4 rfl | exact Zc6 rfl rfl (by assumption) | exact Zc7 rfl rfl (by assumption)); exact rfl) | refine Zaa ?_ | refine Zag ?_ | refine Zaq ?_ | refine Zb4 rfl ?_ | refine Zb8 rfl ?_))
   exact ⟨by first | exact .inr rfl | exact .inl rfl, ret1 rfl (.tmp rfl) (List.nil_sublist _) ⟨congrArg exB (decide_eq_true (by rw [h36]; decide)).symm, rfl⟩⟩
 by_cases h37 : s = [101, 110, 100]
 · (repeat' (first | refine Za8 ?_ | refine Za1 ?_ | refine Za6 ?_ | (apply Za9; (first | exact Za3 rfl | exact Za4 rfl | exact Zc6 rfl rfl (by assumption) | exact Zc7 rfl rfl (by assumption)); exact rfl) | refine Zaa ?_ | refine Zag ?_ | refine Zaq ?_ | refine Zb4 rfl ?_ | refine Zb8 rfl ?_))
   exact ⟨by first | exact .inr rfl | exact .inl rfl, ret1 rfl (.tmp rfl) (List.nil_sublist _) ⟨congrArg exB (decide_eq_true (by rw [h37]; decide)).symm, rfl⟩⟩
 (repeat' (first | refine Za8 ?_ | refine Za1 ?_ | refine Za6 ?_ | (apply Za9; (first | exact Za3 rfl | exact Za4 rfl | exact Zc6 rfl rfl (by assumption) | exact Zc7 rfl rfl (by assumption)); exact rfl) | refine Zaa ?_ | refine Zag ?_ | refine Zaq ?_ | refine Zb4 rfl ?_ | refine Zb8 rfl ?_))
 exact ⟨by first | exact .inr rfl | exact .inl rfl, ret1 rfl (.tmp rfl) (List.nil_sublist _) ⟨congrArg exB (decide_eq_false (by unfold words14; simp only [List.mem_cons, List.not_mem_nil, or_false]; simp [*])).symm, rfl⟩⟩
def freeF (s : List UInt8) : Bool := nameF s && !decide (s ∈ words14)
set_option maxRecDepth 100000 in
theorem r14free_any (s : List UInt8) : FnC Tryz.prog 66 [exT s] [] (fun p loc => p = exB (freeF s) ∧ loc = []) := by
 refine Zb7 Tryz.func66 rfl Tryz.ntmps66 rfl fun w0 F0 out => ?_
 have hN := r3name_any s
 have hW := word_any s
 (repeat' (first | refine Za8 ?_ | refine Za1 ?_ | refine Za6 ?_ | (apply Za9; (first | exact Za3 rfl | exact Za4 rfl | exact Zas (b := true) rfl (fun _ => rfl) (fun e => by cases e) | exact Zas (b := false) rfl (fun e => by cases e) (fun _ => rfl)); exact rfl) | (refine Zbq rfl rfl rfl rfl rfl ?_) | (apply Zbt; exact rfl; exact rfl; exact rfl; (first | exact Za3 rfl | (apply g_un; exact Zbg rfl)); exact rfl) | refine Zaq ?_ | (apply Zaj; exact rfl; (apply Zao; (refine Zaw Tryz.func99 rfl hN rfl ?_; rintro _ _ ⟨rfl, rfl⟩))) | (apply Zc8; exact rfl; exact rfl; exact rfl; exact rfl; (apply Zao; (refine Zaw Tryz.func100 rfl hW rfl ?_; rintro _ _ ⟨rfl, rfl⟩))) | (refine Zbm rfl rfl (fun hb => ?_) (fun hb => ?_) <;> (repeat (fail)) <;> (try (exfalso; fail)))))
 all_goals (refine ⟨.inr rfl, ret1 rfl (.tmp rfl) (List.nil_sublist _) ⟨congrArg exB ?_, rfl⟩⟩)
 all_goals (unfold freeF; simp [*])
end Go.Proofs.YthldagplhklbnaaGreatDoor
namespace Go.Proofs
open Go.Shelf
def Tryz.lays157_ren : Go.Shelf.Ren := ⟨fun | 157 => 109 | 229 => 114 | 199 => 115 | 261 => 118 | 311 => 120 | 312 => 121 | n => n, fun | 9 => 9 | 31 => 106 | 3 => 3 | 5 => 5 | 4 => 4 | 119 => 153 | 0 => 0 | 40 => 155 | 152 => 156 | 21 => 21 | 154 => 158 | 51 => 159 | 141 => 161 | 196 => 165 | 193 => 162 | 198 => 168 | 49 => 166 | 194 => 163 | 201 => 171 | 226 => 173 | 46 => 174 | 227 => 175 | n => n, fun | 0 => 0 | 6 => 1 | n => n⟩
theorem Tryz.lays157 : Go.Proofs.Lays.n157 Tryz.prog Tryz.lays157_ren := {
 mixed := by kernel_rfl
 f157 := Tryz.func109.trans (congrArg some (by kernel_rfl))
 f199 := Tryz.func115.trans (congrArg some (by kernel_rfl))
 f229 := Tryz.func114.trans (congrArg some (by kernel_rfl))
 f261 := Tryz.func118.trans (congrArg some (by kernel_rfl))
 f311 := Tryz.func120.trans (congrArg some (by kernel_rfl))
 f312 := Tryz.func121.trans (congrArg some (by kernel_rfl))
 t0 := Tryz.underlying0
 a0 := Tryz.isAgg0
 z0 := Tryz.sizeOf0
 v0 := Tryz.zeroValue0
 t3 := Tryz.underlying3
 a3 := Tryz.isAgg3
 z3 := Tryz.sizeOf3
 v3 := Tryz.zeroValue3
 t4 := Tryz.underlying4
 a4 := Tryz.isAgg4
 z4 := Tryz.sizeOf4
 v4 := Tryz.zeroValue4
 t5 := Tryz.underlying5
 a5 := Tryz.isAgg5
 z5 := Tryz.sizeOf5
 v5 := Tryz.zeroValue5
 t9 := Tryz.underlying9
 a9 := Tryz.isAgg9
 z9 := Tryz.sizeOf9
 v9 := Tryz.zeroValue9
 t21 := Tryz.underlying21
 a21 := Tryz.isAgg21
 z21 := Tryz.sizeOf21
 v21 := Tryz.zeroValue21
 t31 := Tryz.underlying106
 a31 := Tryz.isAgg106
 z31 := Tryz.sizeOf106
 v31 := Tryz.zeroValue106
 t40 := Tryz.underlying155
 a40 := Tryz.isAgg155
 z40 := Tryz.sizeOf155
 v40 := Tryz.zeroValue155
 t46 := Tryz.underlying174
 a46 := Tryz.isAgg174
 z46 := Tryz.sizeOf174
 v46 := Tryz.zeroValue174
 t49 := Tryz.underlying166
 a49 := Tryz.isAgg166
 z49 := Tryz.sizeOf166
 v49 := Tryz.zeroValue166
 t51 := Tryz.underlying159
 a51 := Tryz.isAgg159
 z51 := Tryz.sizeOf159
 v51 := Tryz.zeroValue159
 t119 := Tryz.underlying153
 a119 := Tryz.isAgg153
 z119 := Tryz.sizeOf153
 t141 := Tryz.underlying161
 a141 := Tryz.isAgg161
 z141 := Tryz.sizeOf161
 v141 := Tryz.zeroValue161
 t152 := Tryz.underlying156
 a152 := Tryz.isAgg156
 z152 := Tryz.sizeOf156
 v152 := Tryz.zeroValue156
 t154 := Tryz.underlying158
 a154 := Tryz.isAgg158
 z154 := Tryz.sizeOf158
 v154 := Tryz.zeroValue158
 t193 := Tryz.underlying162
 a193 := Tryz.isAgg162
 z193 := Tryz.sizeOf162
 v193 := Tryz.zeroValue162
 t194 := Tryz.underlying163
 a194 := Tryz.isAgg163
 z194 := Tryz.sizeOf163
 v194 := Tryz.zeroValue163
 t196 := Tryz.underlying165
 a196 := Tryz.isAgg165
 z196 := Tryz.sizeOf165
 v196 := Tryz.zeroValue165
 t198 := Tryz.underlying168
 a198 := Tryz.isAgg168
 z198 := Tryz.sizeOf168
 v198 := Tryz.zeroValue168
 t201 := Tryz.underlying171
 a201 := Tryz.isAgg171
 z201 := Tryz.sizeOf171
 v201 := Tryz.zeroValue171
 t226 := Tryz.underlying173
 a226 := Tryz.isAgg173
 z226 := Tryz.sizeOf173
 v226 := Tryz.zeroValue173
 t227 := Tryz.underlying175
 a227 := Tryz.isAgg175
 z227 := Tryz.sizeOf175
 v227 := Tryz.zeroValue175
 g0 := by kernel_rfl
 g6 := by kernel_rfl }
end Go.Proofs
namespace Go.Proofs.YthldagplhklbnaaGreatDoor
open Go Go.RowKit Go.Kx Go.Fr
def tabG : Nat := (Tryz.lays157_ren).g 0
abbrev Tab : Ent := tabE tabG
def wordsT : List UInt8 := [99, 111, 109, 112, 101, 116, 105, 116, 105, 111, 110, 32, 99, 114, 105, 116, 101, 114, 105, 111, 110, 32, 102, 114, 111, 109, 32, 116, 111, 32, 115, 116, 101, 112, 32, 115, 117, 109, 32, 109, 101, 97, 110, 32, 116, 114, 105, 109, 32, 109, 101, 100, 105, 97, 110, 32, 114, 101, 118, 101, 114, 115, 101, 32, 98, 111, 110, 117, 115, 32, 118, 97, 108, 117, 101, 32, 109, 111, 115, 116, 32, 109, 97, 108, 117, 115, 32, 116, 105, 101, 32, 116, 111, 116, 97, 108, 32, 115, 99, 111, 114, 101, 32, 104, 105, 103, 104, 101, 115, 116, 32, 114, 117, 108, 101, 32, 108, 111, 116, 32, 114, 111, 117, 110, 100, 32, 112, 97, 110, 101, 108, 32, 113, 117, 111, 116, 97, 32, 111, 118, 101, 114, 32, 117, 110, 100, 101, 114, 32, 108, 111, 116, 115, 32, 102, 114, 101, 101, 32, 112, 108, 97, 99, 101, 115, 32, 112, 114, 105, 122, 101, 115, 32, 112, 111, 105, 110, 116, 115, 32, 98, 101, 115, 116, 32, 108, 101, 97, 115, 116, 32, 103, 114, 101, 97, 116, 101, 115, 116, 32, 105, 102, 32, 117, 112, 116, 111, 32, 116, 104, 101, 110, 32, 101, 108, 115, 101, 32, 101, 110, 100]
theorem fields_words : Lib.fields wordsT = words14 := by decide +kernel
theorem words_ascii : ∀ (j : Nat) b, wordsT[j]? = some b → b.toNat < 128 := by
 have h : wordsT.all (fun b => decide (b.toNat < 128)) = true := by decide +kernel
 intro j b hb
 have := List.all_eq_true.1 h b (List.mem_of_getElem? hb)
 simpa using this
theorem words_len : wordsT.length = 221 := by decide +kernel
theorem words14_len : words14.length = 38 := by decide +kernel
theorem fields_fr : FnC Tryz.prog 109 [exT wordsT] [Tab] (fun p loc => p = isl eStr words14 ∧ loc = []) := by
 refine FnC_tab fun F w vals ht h => ?_
 obtain ⟨v, rfl, rfl⟩ := cells1 h
 refine (Any.strings_Fields_core Tryz.lays157 (by kernel_rfl) ⟨wordsT.toArray⟩ w (by show wordsT.toArray.size < _; rw [List.size_toArray, words_len]; decide) (fun j b hb => words_ascii j b hb) ht.2.2).mono ?_
 rintro e w' ⟨rfl, rfl⟩
 refine ⟨_, _, rfl, ⟨rfl, rfl⟩, ?_, ?_⟩
 · have e1 : (⟨wordsT.toArray⟩ : ByteArray).data.toList = wordsT := rfl
   rw [e1, fields_words]
   refine ⟨_, _, _, rfl, ⟨rfl, Nat.le_refl _, by rw [words14_len]; decide, by rw [words14_len]; decide, (fun h => by cases h), fun i hi => ?_⟩⟩
   refine ⟨_, 0, [.string ⟨words14[i].toArray⟩], rfl, .inr (Nat.le_refl _), by simp, rfl, fun j hj => ?_, rfl⟩
   have hj0 : j = 0 := by have : eStr.size = 1 := rfl; omega
   subst hj0
   have hh : (w.alloc (.cells (words14.map fun l => Value.string ⟨l.toArray⟩).toArray ((Tryz.lays157_ren).t 9))).heap[w.heap.size]? = some (.cells (words14.map fun l => Value.string ⟨l.toArray⟩).toArray ((Tryz.lays157_ren).t 9) (0, 0)) := by
     show (w.heap.push _)[w.heap.size]? = _; simp
   have e2 : eStr.size = 1 := rfl
   simp only [World.cell?, hh, e2, Nat.mul_one, Nat.add_zero, Nat.zero_add]
   simp [hi]
 · exact ⟨rfl, rfl, rfl, by simp, fun k hk => Below.heap_alloc w _ k hk⟩
set_option maxRecDepth 100000 in
theorem words_any : FnC Tryz.prog 97 [] [Tab] (fun p loc => p = isl eStr words14 ∧ loc = []) := by
 refine Zb7 Tryz.func97 rfl Tryz.ntmps97 rfl fun w0 F0 out => ?_
 have hF := fields_fr
 (repeat' (first | refine Za8 ?_ | refine Za1 ?_ | refine Za6 ?_ | (apply Za9; (exact Za4 rfl); exact rfl) | refine Zaq ?_ | (apply Zaj; exact rfl; (apply Zao; (refine Zby (.dup 0 rfl rfl .nil) Tryz.func109 rfl hF rfl ?_; rintro _ _ ⟨rfl, rfl⟩)))))
 exact ⟨.inr rfl, ret1 rfl (.tmp rfl) (List.nil_sublist _) ⟨rfl, rfl⟩⟩
set_option maxRecDepth 100000 in
theorem free_any (s : List UInt8) : FnC Tryz.prog 56 [exT s] [Tab] (fun p loc => p = exB (freeF s) ∧ loc = []) := by
 refine Zb7 Tryz.func56 rfl Tryz.ntmps56 rfl fun w0 F0 out => ?_
 have hN := name_any s
 have hW := words_any
 have hC := containsStr_any words14 s (by rw [words14_len]; decide)
 (repeat' (first | refine Za8 ?_ | refine Za1 ?_ | refine Za6 ?_ | (apply Za9; (first | exact Za3 rfl | exact Za4 rfl | exact Zas (b := true) rfl (fun _ => rfl) (fun e => by cases e) | exact Zas (b := false) rfl (fun e => by cases e) (fun _ => rfl)); exact rfl) | (refine Zbq rfl rfl rfl rfl rfl ?_) | (apply Zbt; exact rfl; exact rfl; exact rfl; (first | exact Za3 rfl | (apply g_un; exact Zbg rfl)); exact rfl) | refine Zaq ?_ | (apply Zaj; exact rfl; (apply Zao; (refine Zaw Tryz.func95 rfl hN rfl ?_; rintro _ _ ⟨rfl, rfl⟩))) | (apply Zc8; exact rfl; exact rfl; exact rfl; exact rfl; (apply Zao; first | (refine Zby (.dup 0 rfl rfl .nil) Tryz.func97 rfl hW rfl ?_; rintro _ _ ⟨rfl, rfl⟩) | (refine Zaw Tryz.func96 rfl hC rfl ?_; rintro _ _ ⟨rfl, rfl⟩))) | (refine Zbm rfl rfl (fun hb => ?_) (fun hb => ?_) <;> (repeat (fail)) <;> (try (exfalso; fail)))))
 all_goals (refine ⟨.inr rfl, ret1 rfl (.tmp rfl) (List.nil_sublist _) ⟨congrArg exB ?_, rfl⟩⟩)
 all_goals (unfold freeF; simp [*])
end Go.Proofs.YthldagplhklbnaaGreatDoor
namespace Go.Proofs.YthldagplhklbnaaGreatDoor
open Go Go.RowKit Go.Kx Go.Fr
set_option maxRecDepth 100000 in
theorem parts_any : ∀ (k : Nat) (x : Ex) (m : Nat), m < 2 ^ 60 → FnC Tryz.prog 38 [agg (exV k x), exI .i64 m] [] (fun p loc => p = exI .i64 (x.partsN m) ∧ loc = []) := by
 intro k
 induction k with
 | zero => intro x m _; exact Zbe (i := 0) rfl Says_ex0 fun h => h.elim
 | succ k ih =>
   intro x m hm
   refine Zbe (i := 0) rfl (Zca (i := 4) (p := isl (eEx k) x.l) rfl Zbl) fun hlen => ?_
   show FnC Tryz.prog 38 [agg [exI .i64 x.kind, exT x.name, exI .i64 x.n, exI .i64 x.d, isl (eEx k) x.l], exI .i64 m] [] (fun p loc => p = exI .i64 (x.partsN m) ∧ loc = [])
   rw [Ex.partsN_l]
   obtain ⟨hlen, -⟩ := hlen
   simp only [maxLen] at hlen
   refine Zb7 Tryz.func38 rfl Tryz.ntmps38 rfl fun w0 F0 out => ?_
   (repeat' (first | refine Za8 ?_ | refine Za1 ?_ | refine Za6 ?_ | (apply Za9; (exact Za4 rfl); exact rfl) | refine Zaa ?_ | (apply Zaj; exact rfl; (apply Zc9; refine Zbz rfl ?_; intro _))))
   rename_i b
   refine Zbv (fun s : Nat × Nat => ([(1, exI .i64 (m : Int)), (2, ex (.pointer (some ⟨b, 0, none⟩))), (5, exI .i64 (s.2 : Int)), (6, exI .i64 (s.1 : Int))], [row b 46 5 [exI .i64 x.kind, exT x.name, exI .i64 x.n, exI .i64 x.d, isl (eEx k) x.l]])) (fun s => s.1 ≤ x.l.length ∧ s.2 ≤ m + 1 ∧ Ex.partsL (x.l.drop s.1) m s.2 = Ex.partsL x.l m 1) (fun s => x.l.length - s.1) (0, 1) ?_ ⟨Nat.zero_le _, by show 1 ≤ m + 1; omega, rfl⟩ fun s hs => ?_
   · exact Zae (by repeat (first | exact Zai | refine Zad rfl ?_)) (List.Sublist.refl _)
   obtain ⟨i, n⟩ := s
   obtain ⟨hi, hn, hp⟩ := hs
   simp only at hi hn hp ⊢
   by_cases hlt : i < x.l.length
   · rw [Ex.partsL_drop hlt] at hp
     by_cases hle : n ≤ m
     · rw [if_pos hle] at hp
       have hcall := ih x.l[i] (m - n) (by omega)
       have hsp := (Ex.partsN_spec x.l[i] (m - n)).1
       have e1 : ((m - n : Nat) : Int) = (m : Int) - (n : Int) := by omega
       rw [e1] at hcall
       (repeat' (first | refine Za8 ?_ | refine Za1 ?_ | refine Za6 ?_ | (apply Za9; (first | exact Za3 rfl | exact Za4 rfl | exact Zas (b := true) rfl (fun _ => rfl) (fun e => by cases e) | (apply Za7; first | exact Zab (k := 0) rfl rfl rfl rfl | exact Zb2 rfl rfl) | (apply Zat; exact Zaf rfl rfl rfl) | (apply Zah; first | exact Zau rfl rfl | exact Zbf rfl rfl | exact WT_sub rfl rfl) | (apply Zak; exact Zar rfl rfl rfl) | (apply Zax; exact Zb3 rfl rfl)); exact rfl) | (apply Zbt; exact rfl; exact rfl; exact rfl; (first | exact Za3 rfl | (apply Zah; exact WT_leq rfl rfl)); exact rfl) | refine Zaa ?_ | refine Zag ?_ | (apply Zaj; exact rfl; (apply Zao; (refine Zaw Tryz.func38 rfl hcall rfl ?_; rintro _ _ ⟨rfl, rfl⟩))) | (refine Zbm rfl rfl (fun hb => ?_) (fun hb => ?_) <;> (repeat (first | replace hb := Zam hb | replace hb := Zan hb)) <;> (try (exfalso; omega))) | (refine Zac rfl (fun hb => ?_) (fun hb => ?_) <;> (repeat (first | replace hb := Zam hb | replace hb := Zan hb)) <;> (try (exfalso; omega)))))
       all_goals (try (exfalso; omega))
       exact ⟨(i + 1, n + x.l[i].partsN (m - n)), ⟨by show i + 1 ≤ _; omega, by show n + _ ≤ m + 1; omega, hp⟩, by show x.l.length - (i + 1) < x.l.length - i; omega, Zae (by repeat (first | exact Zai | refine Zad rfl ?_)) (List.Sublist.refl _)⟩
     · rw [if_neg hle] at hp
       (repeat' (first | refine Za8 ?_ | refine Za1 ?_ | refine Za6 ?_ | (apply Za9; (first | exact Za3 rfl | exact Za4 rfl | exact Zas (b := true) rfl (fun _ => rfl) (fun e => by cases e) | (apply Za7; exact Zab (k := 0) rfl rfl rfl rfl) | (apply Zat; exact Zaf rfl rfl rfl) | (apply Zah; exact Zau rfl rfl) | (apply Zax; exact Zb3 rfl rfl)); exact rfl) | (apply Zbt; exact rfl; exact rfl; exact rfl; (first | exact Za3 rfl | (apply Zah; exact WT_leq rfl rfl)); exact rfl) | refine Zaq ?_ | refine Zbk ?_ | (refine Zbm rfl rfl (fun hb => ?_) (fun hb => ?_) <;> (repeat (first | replace hb := Zam hb | replace hb := Zan hb)) <;> (try (exfalso; omega))) | (refine Zac rfl (fun hb => ?_) (fun hb => ?_) <;> (repeat (first | replace hb := Zam hb | replace hb := Zan hb)) <;> (try (exfalso; omega)))))
       all_goals (try (exfalso; omega))
       refine ⟨.inr rfl, ret1 rfl (.tmp rfl) (List.nil_sublist _) ⟨by rw [← hp], rfl⟩⟩
   · have hk9 : i = x.l.length := by omega
     subst hk9
     rw [List.drop_length] at hp
     simp only [Ex.partsL] at hp
     (repeat' (first | refine Za8 ?_ | refine Za1 ?_ | refine Za6 ?_ | (apply Za9; (first | exact Za3 rfl | exact Za4 rfl | exact Zas (b := false) rfl (fun e => by cases e) (fun _ => rfl) | (apply Za7; exact Zab (k := 0) rfl rfl rfl rfl) | (apply Zat; exact Zaf rfl rfl rfl) | (apply Zah; exact Zau rfl rfl) | (apply Zax; exact Zb3 rfl rfl)); exact rfl) | (refine Zbq rfl rfl rfl rfl rfl ?_) | refine Zaq ?_ | refine Zbk ?_ | refine Zb8 rfl ?_ | (refine Zbm rfl rfl (fun hb => ?_) (fun hb => ?_) <;> (repeat (first | replace hb := Zam hb | replace hb := Zan hb)) <;> (try (exfalso; omega)))))
     all_goals (try (exfalso; omega))
     refine ⟨.inr rfl, ret1 rfl (.tmp rfl) (List.nil_sublist _) ⟨by rw [← hp], rfl⟩⟩
set_option maxRecDepth 100000 in
theorem depth_any : ∀ (k : Nat) (x : Ex), x.tot < 2 ^ 60 → FnC Tryz.prog 98 [agg (exV k x)] [] (fun p loc => p = exI .i64 (x.depth : Int) ∧ loc = []) := by
 intro k
 induction k with
 | zero => intro x _; exact Zbe (i := 0) rfl Says_ex0 fun h => h.elim
 | succ k ih =>
   intro x hx
   refine Zbe (i := 0) rfl (Zca (i := 4) (p := isl (eEx k) x.l) rfl Zbl) fun hlen => ?_
   show FnC Tryz.prog 98 [agg [exI .i64 x.kind, exT x.name, exI .i64 x.n, exI .i64 x.d, isl (eEx k) x.l]] [] (fun p loc => p = exI .i64 (x.depth : Int) ∧ loc = [])
   have hd := Ex.depth_le_tot x
   rw [Ex.depth_l] at hd ⊢
   have htl := Ex.tot_l x
   obtain ⟨hlen, -⟩ := hlen
   simp only [maxLen] at hlen
   refine Zb7 Tryz.func98 rfl Tryz.ntmps98 rfl fun w0 F0 out => ?_
   (repeat' (first | refine Za8 ?_ | refine Za1 ?_ | refine Za6 ?_ | (apply Za9; (exact Za4 rfl); exact rfl) | refine Zaa ?_ | (apply Zaj; exact rfl; (apply Zc9; refine Zbz rfl ?_; intro _))))
   rename_i b
   refine Zbv (fun s : Nat × Nat => ([(1, ex (.pointer (some ⟨b, 0, none⟩))), (3, exI .i64 (s.2 : Int)), (4, exI .i64 (s.1 : Int))], [row b 46 5 [exI .i64 x.kind, exT x.name, exI .i64 x.n, exI .i64 x.d, isl (eEx k) x.l]])) (fun s => s.1 ≤ x.l.length ∧ max s.2 (Ex.depths (x.l.drop s.1)) = Ex.depths x.l) (fun s => x.l.length - s.1) (0, 0) ?_ ⟨Nat.zero_le _, by simp⟩ fun s hs => ?_
   · exact Zae (by repeat (first | exact Zai | refine Zad rfl ?_)) (List.Sublist.refl _)
   obtain ⟨i, n⟩ := s
   obtain ⟨hi, hp⟩ := hs
   simp only at hi hp ⊢
   by_cases hlt : i < x.l.length
   · rw [Ex.depths_drop hlt] at hp
     have hmem := Ex.tots_mem (List.getElem_mem hlt)
     have hcall := ih x.l[i] (by omega)
     (repeat' (first | refine Za8 ?_ | refine Za1 ?_ | refine Za6 ?_ | (apply Za9; (first | exact Za3 rfl | exact Za4 rfl | (apply Za7; first | exact Zab (k := 0) rfl rfl rfl rfl | exact Zb2 rfl rfl) | (apply Zat; exact Zaf rfl rfl rfl) | (apply Zah; first | exact Zau rfl rfl | exact Zbf rfl rfl) | (apply Zak; exact Zar rfl rfl rfl) | (apply Zax; first | exact WT_max rfl rfl | exact Zb3 rfl rfl)); exact rfl) | refine Zaa ?_ | refine Zag ?_ | (apply Zaj; exact rfl; (apply Zao; (refine Zaw Tryz.func98 rfl hcall rfl ?_; rintro _ _ ⟨rfl, rfl⟩))) | (refine Zac rfl (fun hb => ?_) (fun hb => ?_) <;> (repeat (first | replace hb := Zam hb | replace hb := Zan hb)) <;> (try (exfalso; omega)))))
     all_goals (try (exfalso; omega))
     refine ⟨(i + 1, max n x.l[i].depth), ⟨by show i + 1 ≤ _; omega, by show max (max n x.l[i].depth) (Ex.depths (x.l.drop (i + 1))) = Ex.depths x.l; omega⟩, by show x.l.length - (i + 1) < x.l.length - i; omega, ?_⟩
     have e1 : ((max n x.l[i].depth : Nat) : Int) = if (x.l[i].depth : Int) > (n : Int) then (x.l[i].depth : Int) else (n : Int) := by split <;> omega
     simp only [e1]
     exact Zae (by repeat (first | exact Zai | refine Zad rfl ?_)) (List.Sublist.refl _)
   · have hk9 : i = x.l.length := by omega
     subst hk9
     rw [List.drop_length] at hp
     simp only [Ex.depths, Nat.max_zero] at hp
     subst hp
     (repeat' (first | refine Za8 ?_ | refine Za1 ?_ | refine Za6 ?_ | (apply Za9; (first | exact Za3 rfl | exact Za4 rfl | (apply Za7; exact Zab (k := 0) rfl rfl rfl rfl) | (apply Zat; exact Zaf rfl rfl rfl) | (apply Zah; first | exact Zau rfl rfl | exact Zbf rfl rfl) | (apply Zax; exact Zb3 rfl rfl)); exact rfl) | refine Zaq ?_ | refine Zbk ?_ | (refine Zac rfl (fun hb => ?_) (fun hb => ?_) <;> (repeat (first | replace hb := Zam hb | replace hb := Zan hb)) <;> (try (exfalso; omega)))))
     all_goals (try (exfalso; omega))
     refine ⟨.inr rfl, ret1 rfl (.tmp rfl) (List.nil_sublist _) ⟨rfl, rfl⟩⟩
set_option maxHeartbeats 1000000 in
set_option maxRecDepth 100000 in
theorem sameExpr_any : ∀ (k j : Nat) (x y : Ex), FnC Tryz.prog 74 [agg (exV k x), agg (exV j y)] [] (fun p loc => p = exB (decide (x = y)) ∧ loc = []) := by
 intro k
 induction k with
 | zero => intro j x y; exact Zbe (i := 0) rfl Says_ex0 fun h => h.elim
 | succ k ih =>
   intro j x y
   cases j with
   | zero => exact Zbe (i := 1) rfl Says_ex0 fun h => h.elim
   | succ j =>
     refine Zbe (i := 0) rfl (Zca (i := 4) (p := isl (eEx k) x.l) rfl Zbl) fun hlen => ?_
     refine Zbe (i := 1) rfl (Zca (i := 4) (p := isl (eEx j) y.l) rfl Zbl) fun hlen2 => ?_
     show FnC Tryz.prog 74 [agg [exI .i64 x.kind, exT x.name, exI .i64 x.n, exI .i64 x.d, isl (eEx k) x.l], agg [exI .i64 y.kind, exT y.name, exI .i64 y.n, exI .i64 y.d, isl (eEx j) y.l]] [] (fun p loc => p = exB (decide (x = y)) ∧ loc = [])
     obtain ⟨hlen, -⟩ := hlen
     obtain ⟨hlen2, -⟩ := hlen2
     simp only [maxLen] at hlen hlen2
     refine Zb7 Tryz.func74 rfl Tryz.ntmps74 rfl fun w0 F0 out => ?_
     by_cases h0 : x.kind = y.kind ∧ x.name = y.name ∧ x.n = y.n ∧ x.d = y.d ∧ x.l.length = y.l.length
     · obtain ⟨h1, h2, h3, h4, h5⟩ := h0
       (repeat' (first | refine Za8 ?_ | refine Za1 ?_ | refine Za6 ?_ | (apply Za9; (first | exact Za3 rfl | exact Za4 rfl | exact Zas (b := true) rfl (fun _ => rfl) (fun e => by cases e) | exact Zas (b := false) rfl (fun e => by cases e) (fun _ => rfl) | (apply Za7; first | exact Zab (k := 0) rfl rfl rfl rfl | exact Zab (k := 1) rfl rfl rfl rfl) | (apply Zat; exact Zaf rfl rfl rfl) | (apply Zah; exact Zc3 rfl rfl)); exact rfl) | (refine Zbq rfl rfl rfl rfl rfl ?_) | (apply Zbt; exact rfl; exact rfl; exact rfl; (first | (apply Za7; first | exact Zab (k := 0) rfl rfl rfl rfl | exact Zab (k := 1) rfl rfl rfl rfl) | (apply Zat; exact Zaf rfl rfl rfl) | (apply Zah; first | exact WT_tne rfl rfl | exact Zc3 rfl rfl) | (apply Zax; exact Zb3 rfl rfl)); exact rfl) | refine Zaa ?_ | refine Zag ?_ | refine Zaq ?_ | refine Zb4 rfl ?_ | (apply Zaj; exact rfl; (apply Zc9; refine Zbz rfl ?_; intro _)) | (refine Zbm rfl rfl (fun hb => ?_) (fun hb => ?_) <;> (repeat (first | replace hb := Zam hb | replace hb := Zan hb | replace hb := Zbr hb | replace hb := Zbs hb)) <;> (try (exfalso; omega))) | (refine Zac rfl (fun hb => ?_) (fun hb => ?_) <;> (repeat (first | replace hb := Zam hb | replace hb := Zan hb | replace hb := Zbr hb | replace hb := Zbs hb)) <;> (try (exfalso; omega)))))
       all_goals (try (exfalso; first | contradiction | omega))
       rename_i b1 b2 _ _ _ _
       refine Zbv (fun i : Nat => ([(2, ex (.pointer (some ⟨b1, 0, none⟩))), (3, ex (.pointer (some ⟨b2, 0, none⟩))), (5, exI .i64 (i : Int))], [row b2 46 5 [exI .i64 y.kind, exT y.name, exI .i64 y.n, exI .i64 y.d, isl (eEx j) y.l], row b1 46 5 [exI .i64 x.kind, exT x.name, exI .i64 x.n, exI .i64 x.d, isl (eEx k) x.l]])) (fun i => i ≤ x.l.length ∧ x.l.take i = y.l.take i) (fun i => x.l.length - i) 0 ?_ ⟨Nat.zero_le _, rfl⟩ fun i hi => ?_
       · exact Zae (by repeat (first | exact Zai | refine Zad rfl ?_)) (List.Sublist.refl _)
       obtain ⟨hi, ht⟩ := hi
       by_cases hlt : i < x.l.length
       · have hcall := ih j x.l[i] (y.l[i]'(by omega))
         by_cases he : x.l[i] = y.l[i]'(by omega)
         · (repeat' (first | refine Za8 ?_ | refine Za1 ?_ | refine Za6 ?_ | (apply Za9; (first | exact Za3 rfl | (apply Za7; exact Zab (k := 1) rfl rfl rfl rfl) | (apply Zat; exact Zaf rfl rfl rfl) | (apply Zah; exact Zau rfl rfl) | (apply Zax; exact Zb3 rfl rfl)); exact rfl) | refine Zaa ?_ | refine Zag ?_ | (refine Zac rfl (fun hb => ?_) (fun hb => ?_) <;> (repeat (first | replace hb := Zam hb | replace hb := Zan hb)) <;> (try (exfalso; omega)))))
           (refine Zbx 12 rfl ?_)
           all_goals ((apply Za2 0 rfl (by decide +kernel) rfl (by repeat (first | exact Za5)) Za0; (first | (apply Zat; first | exact Zaf rfl rfl rfl)); exact rfl))
           all_goals ((apply Zb0 1 rfl (by decide +kernel) rfl (by decide +kernel) (by repeat (exact Za5)) Za0; ((apply Za7; exact Zab (k := 1) rfl rfl rfl rfl)); exact rfl))
           all_goals ((apply Za2 2 rfl (by decide +kernel) rfl (by repeat (first | exact Za5)) Za0; (first | exact Za3 rfl); exact rfl))
           all_goals ((apply Za2 3 rfl (by decide +kernel) rfl (by repeat (first | exact Za5)) Za0; (first | (apply Zak; first | exact Zar rfl rfl rfl)); exact rfl))
           all_goals ((apply Zb0 4 rfl (by decide +kernel) rfl (by decide +kernel) (by repeat (exact Za5)) Za0; ((apply Za7; exact Zb2 rfl rfl)); exact rfl))
           all_goals ((apply Za2 5 rfl (by decide +kernel) rfl (by repeat (first | exact Za5)) Za0; (first | (apply Zat; first | exact Zaf rfl rfl rfl)); exact rfl))
           all_goals ((apply Zb0 6 rfl (by decide +kernel) rfl (by decide +kernel) (by repeat (exact Za5)) Za0; ((apply Za7; exact Zab (k := 0) rfl rfl rfl rfl)); exact rfl))
           all_goals ((apply Za2 7 rfl (by decide +kernel) rfl (by repeat (first | exact Za5)) Za0; (first | exact Za3 rfl); exact rfl))
           all_goals ((apply Za2 8 rfl (by decide +kernel) rfl (by repeat (first | exact Za5)) Za0; (first | (apply Zak; first | exact Zar rfl rfl rfl)); exact rfl))
           all_goals ((apply Zb0 9 rfl (by decide +kernel) rfl (by decide +kernel) (by repeat (exact Za5)) Za0; ((apply Za7; exact Zb2 rfl rfl)); exact rfl))
           all_goals ((apply Zap 10; exact (by decide +kernel); exact rfl; exact Za0; exact (fun _ _ h => h); (apply Zao; (refine Zaw Tryz.func74 rfl hcall rfl ?_; rintro _ _ ⟨rfl, rfl⟩))))
           all_goals ((apply Za2 11 rfl (by decide +kernel) rfl (by repeat (first | exact Za5)) Za0; (first | (apply g_un; first | exact Zbg rfl)); exact rfl))
           all_goals (refine Zb9 (by decide +kernel) ?_)
           all_goals ((repeat' (first | refine Za8 ?_ | refine Za1 ?_ | refine Za6 ?_ | (apply Za9; (first | exact Za3 rfl | exact Za4 rfl | (apply Zah; exact Zbf rfl rfl)); exact rfl) | refine Zag ?_ | refine Zaq ?_ | (refine Zac rfl (fun hb => ?_) (fun hb => ?_) <;> (repeat (first | replace hb := Zam hb | replace hb := Zan hb | replace hb := Zbr hb | replace hb := Zbs hb)) <;> (try (exfalso; fail))))))
           all_goals (try (exfalso; simp_all; done))
           exact ⟨i + 1, ⟨by omega, by rw [List.take_succ_eq_append_getElem hlt, List.take_succ_eq_append_getElem (by omega), ht, he]⟩, by omega, Zae (by repeat (first | exact Zai | refine Zad rfl ?_)) (List.Sublist.refl _)⟩
         · (repeat' (first | refine Za8 ?_ | refine Za1 ?_ | refine Za6 ?_ | (apply Za9; (first | exact Za3 rfl | (apply Za7; exact Zab (k := 1) rfl rfl rfl rfl) | (apply Zat; exact Zaf rfl rfl rfl) | (apply Zah; exact Zau rfl rfl) | (apply Zax; exact Zb3 rfl rfl)); exact rfl) | refine Zaa ?_ | refine Zag ?_ | (refine Zac rfl (fun hb => ?_) (fun hb => ?_) <;> (repeat (first | replace hb := Zam hb | replace hb := Zan hb)) <;> (try (exfalso; omega)))))
           (refine Zbx 12 rfl ?_)
           all_goals ((apply Za2 0 rfl (by decide +kernel) rfl (by repeat (first | exact Za5)) Za0; (first | (apply Zat; first | exact Zaf rfl rfl rfl)); exact rfl))
           all_goals ((apply Zb0 1 rfl (by decide +kernel) rfl (by decide +kernel) (by repeat (exact Za5)) Za0; ((apply Za7; exact Zab (k := 1) rfl rfl rfl rfl)); exact rfl))
           all_goals ((apply Za2 2 rfl (by decide +kernel) rfl (by repeat (first | exact Za5)) Za0; (first | exact Za3 rfl); exact rfl))
           all_goals ((apply Za2 3 rfl (by decide +kernel) rfl (by repeat (first | exact Za5)) Za0; (first | (apply Zak; first | exact Zar rfl rfl rfl)); exact rfl))
           all_goals ((apply Zb0 4 rfl (by decide +kernel) rfl (by decide +kernel) (by repeat (exact Za5)) Za0; ((apply Za7; exact Zb2 rfl rfl)); exact rfl))
           all_goals ((apply Za2 5 rfl (by decide +kernel) rfl (by repeat (first | exact Za5)) Za0; (first | (apply Zat; first | exact Zaf rfl rfl rfl)); exact rfl))
           all_goals ((apply Zb0 6 rfl (by decide +kernel) rfl (by decide +kernel) (by repeat (exact Za5)) Za0; ((apply Za7; exact Zab (k := 0) rfl rfl rfl rfl)); exact rfl))
           all_goals ((apply Za2 7 rfl (by decide +kernel) rfl (by repeat (first | exact Za5)) Za0; (first | exact Za3 rfl); exact rfl))
           all_goals ((apply Za2 8 rfl (by decide +kernel) rfl (by repeat (first | exact Za5)) Za0; (first | (apply Zak; first | exact Zar rfl rfl rfl)); exact rfl))
           all_goals ((apply Zb0 9 rfl (by decide +kernel) rfl (by decide +kernel) (by repeat (exact Za5)) Za0; ((apply Za7; exact Zb2 rfl rfl)); exact rfl))
           all_goals ((apply Zap 10; exact (by decide +kernel); exact rfl; exact Za0; exact (fun _ _ h => h); (apply Zao; (refine Zaw Tryz.func74 rfl hcall rfl ?_; rintro _ _ ⟨rfl, rfl⟩))))
           all_goals ((apply Za2 11 rfl (by decide +kernel) rfl (by repeat (first | exact Za5)) Za0; (first | (apply g_un; first | exact Zbg rfl)); exact rfl))
           all_goals (refine Zb9 (by decide +kernel) ?_)
           all_goals ((repeat' (first | refine Za8 ?_ | refine Za1 ?_ | refine Za6 ?_ | (apply Za9; (first | exact Za3 rfl | exact Za4 rfl | (apply Zah; exact Zbf rfl rfl)); exact rfl) | refine Zag ?_ | refine Zaq ?_ | (refine Zac rfl (fun hb => ?_) (fun hb => ?_) <;> (repeat (first | replace hb := Zam hb | replace hb := Zan hb | replace hb := Zbr hb | replace hb := Zbs hb)) <;> (try (exfalso; fail))))))
           all_goals (try (exfalso; simp_all; done))
           refine ⟨.inr rfl, ret1 rfl (.tmp rfl) (List.nil_sublist _) ⟨congrArg exB ?_, rfl⟩⟩
           exact (decide_eq_false fun e => he (by subst e; rfl)).symm
       · have hk9 : i = x.l.length := by omega
         subst hk9
         rw [List.take_length, h5, List.take_length] at ht
         (repeat' (first | refine Za8 ?_ | refine Za1 ?_ | refine Za6 ?_ | (apply Za9; (first | exact Za3 rfl | exact Za4 rfl | (apply Za7; exact Zab (k := 1) rfl rfl rfl rfl) | (apply Zat; exact Zaf rfl rfl rfl) | (apply Zah; exact Zau rfl rfl) | (apply Zax; exact Zb3 rfl rfl)); exact rfl) | refine Zaq ?_ | refine Zbk ?_ | (refine Zac rfl (fun hb => ?_) (fun hb => ?_) <;> (repeat (first | replace hb := Zam hb | replace hb := Zan hb)) <;> (try (exfalso; omega)))))
         all_goals (try (exfalso; omega))
         refine ⟨.inr rfl, ret1 rfl (.tmp rfl) (List.nil_sublist _) ⟨congrArg exB ?_, rfl⟩⟩
         exact (decide_eq_true ((Ex.ext_iff' x y).2 ⟨h1, h2, h3, h4, ht⟩)).symm
     · have hn : x ≠ y := fun e => h0 (by subst e; exact ⟨rfl, rfl, rfl, rfl, rfl⟩)
       rw [decide_eq_false hn]
       (repeat' (first | refine Za8 ?_ | refine Za1 ?_ | refine Za6 ?_ | (apply Za9; (first | exact Za3 rfl | exact Za4 rfl | exact Zas (b := true) rfl (fun _ => rfl) (fun e => by cases e) | exact Zas (b := false) rfl (fun e => by cases e) (fun _ => rfl) | (apply Za7; first | exact Zab (k := 0) rfl rfl rfl rfl | exact Zab (k := 1) rfl rfl rfl rfl) | (apply Zat; exact Zaf rfl rfl rfl) | (apply Zah; exact Zc3 rfl rfl)); exact rfl) | (refine Zbq rfl rfl rfl rfl rfl ?_) | (apply Zbt; exact rfl; exact rfl; exact rfl; (first | (apply Za7; first | exact Zab (k := 0) rfl rfl rfl rfl | exact Zab (k := 1) rfl rfl rfl rfl) | (apply Zat; exact Zaf rfl rfl rfl) | (apply Zah; first | exact WT_tne rfl rfl | exact Zc3 rfl rfl) | (apply Zax; exact Zb3 rfl rfl)); exact rfl) | refine Zaa ?_ | refine Zag ?_ | refine Zaq ?_ | refine Zb4 rfl ?_ | (apply Zaj; exact rfl; (apply Zc9; refine Zbz rfl ?_; intro _)) | (refine Zbm rfl rfl (fun hb => ?_) (fun hb => ?_) <;> (repeat (first | replace hb := Zam hb | replace hb := Zan hb | replace hb := Zbr hb | replace hb := Zbs hb)) <;> (try (exfalso; fail))) | (refine Zac rfl (fun hb => ?_) (fun hb => ?_) <;> (repeat (first | replace hb := Zam hb | replace hb := Zan hb | replace hb := Zbr hb | replace hb := Zbs hb)) <;> (try (exfalso; fail)))))
       all_goals first | exact ⟨.inr rfl, ret1 rfl (.tmp rfl) (List.nil_sublist _) ⟨rfl, rfl⟩⟩ | (exfalso; refine h0 ⟨?_, ?_, ?_, ?_, ?_⟩ <;> first | assumption | omega)
end Go.Proofs.YthldagplhklbnaaGreatDoor
namespace Go.Proofs.YthldagplhklbnaaGreatDoor
open Go Go.RowKit Go.Kx Go.Fr
set_option maxRecDepth 100000 in
instance eqItemD : EqD Tryz.prog 86 itemV := ⟨_, rfl, by kernel_rfl, by kernel_rfl, fun a b => ⟨_, (.str rfl rfl rfl rfl (.int rfl rfl rfl rfl (.int rfl rfl rfl rfl .nil))), by rw [Bool.eq_iff_iff]; cases a; cases b; simp⟩⟩
set_option maxRecDepth 100000 in
instance eqKeyD : EqD Tryz.prog 42 keyV := ⟨_, rfl, by kernel_rfl, by kernel_rfl, fun a b => ⟨_, (.int rfl rfl rfl rfl (.str rfl rfl rfl rfl (.int rfl rfl rfl rfl .nil))), by rw [Bool.eq_iff_iff]; cases a; cases b; simp⟩⟩
set_option maxRecDepth 100000 in
instance eqCritD : EqD Tryz.prog 69 critV := ⟨_, rfl, by kernel_rfl, by kernel_rfl, fun a b => ⟨_, (.str rfl rfl rfl rfl (.int rfl rfl rfl rfl (.int rfl rfl rfl rfl (.int rfl rfl rfl rfl (.int rfl rfl rfl rfl (.int rfl rfl rfl rfl (.bool rfl rfl rfl rfl .nil))))))), by rw [Bool.eq_iff_iff]; cases a; cases b; simp⟩⟩
set_option maxRecDepth 100000 in
theorem sameItems_any (a b : List ItemD) : FnC Tryz.prog 70 [isl eItem a, isl eItem b] [] (fun p loc => p = exB (decide (a = b)) ∧ loc = []) := by
 refine Zbe (i := 0) rfl Zbl fun ha => ?_
 refine Zbe (i := 1) rfl Zbl fun hb => ?_
 obtain ⟨ha, -⟩ := ha
 obtain ⟨hb, -⟩ := hb
 simp only [maxLen] at ha hb
 refine Zb7 Tryz.func70 rfl Tryz.ntmps70 rfl fun w0 F0 out => ?_
 by_cases hl : a.length = b.length
 · (repeat' (first | refine Za8 ?_ | refine Za1 ?_ | refine Za6 ?_ | (apply Za9; (first | exact Za3 rfl | exact Za4 rfl | (apply Zah; exact Zc3 rfl rfl) | (apply Zax; exact Zb3 rfl rfl)); exact rfl) | refine Zaa ?_ | refine Zag ?_ | (refine Zac rfl (fun hb => ?_) (fun hb => ?_) <;> (repeat (first | replace hb := Zam hb | replace hb := Zan hb | replace hb := Zbr hb | replace hb := Zbs hb)) <;> (try (exfalso; omega)))))
   all_goals (try (exfalso; omega))
   refine Zbv (fun k : Nat => ([(0, isl eItem a), (1, isl eItem b), (5, exI .i64 k)], [])) (fun k => k ≤ a.length ∧ a.take k = b.take k) (fun k => a.length - k) 0 ?_ ⟨Nat.zero_le _, rfl⟩ fun k hk => ?_
   · exact Zae (by repeat (first | exact Zai | refine Zad rfl ?_)) (List.Sublist.refl _)
   obtain ⟨hk, ht⟩ := hk
   by_cases hlt : k < a.length
   · by_cases he : a[k] = b[k]'(by omega)
     · (repeat' (first | refine Za8 ?_ | refine Za1 ?_ | refine Za6 ?_ | (apply Za9; (first | exact Za3 rfl | (apply Zah; exact Zau rfl rfl) | (apply Zax; exact Zb3 rfl rfl)); exact rfl) | refine Zaa ?_ | refine Zag ?_ | (refine Zac rfl (fun hb => ?_) (fun hb => ?_) <;> (repeat (first | replace hb := Zam hb | replace hb := Zan hb)) <;> (try (exfalso; omega)))))
       (refine Zbx 9 rfl ?_)
       all_goals ((apply Za2 0 rfl (by decide +kernel) rfl (by repeat (first | exact Za5)) Za0; (first | exact Za3 rfl); exact rfl))
       all_goals ((apply Za2 1 rfl (by decide +kernel) rfl (by repeat (first | exact Za5)) Za0; (first | exact Za3 rfl); exact rfl))
       all_goals ((apply Za2 2 rfl (by decide +kernel) rfl (by repeat (first | exact Za5)) Za0; (first | (apply Zak; first | exact Zar rfl rfl rfl)); exact rfl))
       all_goals ((apply Zb0 3 rfl (by decide +kernel) rfl (by decide +kernel) (by repeat (exact Za5)) Za0; ((apply Za7; exact Zb2 rfl rfl)); exact rfl))
       all_goals ((apply Za2 4 rfl (by decide +kernel) rfl (by repeat (first | exact Za5)) Za0; (first | exact Za3 rfl); exact rfl))
       all_goals ((apply Za2 5 rfl (by decide +kernel) rfl (by repeat (first | exact Za5)) Za0; (first | exact Za3 rfl); exact rfl))
       all_goals ((apply Za2 6 rfl (by decide +kernel) rfl (by repeat (first | exact Za5)) Za0; (first | (apply Zak; first | exact Zar rfl rfl rfl)); exact rfl))
       all_goals ((apply Zb0 7 rfl (by decide +kernel) rfl (by decide +kernel) (by repeat (exact Za5)) Za0; ((apply Za7; exact Zb2 rfl rfl)); exact rfl))
       all_goals ((apply Za2 8 rfl (by decide +kernel) rfl (by repeat (first | exact Za5)) Za0; (first | (apply Zah; first | exact WT_aneD inferInstance rfl rfl)); exact rfl))
       all_goals (refine Zb9 (by decide +kernel) ?_)
       all_goals ((repeat' (first | refine Za8 ?_ | refine Za1 ?_ | refine Za6 ?_ | (apply Za9; (first | exact Za3 rfl | exact Za4 rfl | (apply Zah; exact Zbf rfl rfl)); exact rfl) | refine Zag ?_ | refine Zaq ?_ | (refine Zac rfl (fun hb => ?_) (fun hb => ?_) <;> (repeat (first | replace hb := Zam hb | replace hb := Zan hb | replace hb := Zbr hb | replace hb := Zbs hb)) <;> (try (exfalso; fail))))))
       all_goals (try (exfalso; simp_all; done))
       exact ⟨k + 1, ⟨by omega, by rw [List.take_succ_eq_append_getElem hlt, List.take_succ_eq_append_getElem (by omega), ht, he]⟩, by omega, Zae (by repeat (first | exact Zai | refine Zad rfl ?_)) (List.Sublist.refl _)⟩
     · (repeat' (first | refine Za8 ?_ | refine Za1 ?_ | refine Za6 ?_ | (apply Za9; (first | exact Za3 rfl | (apply Zah; exact Zau rfl rfl) | (apply Zax; exact Zb3 rfl rfl)); exact rfl) | refine Zaa ?_ | refine Zag ?_ | (refine Zac rfl (fun hb => ?_) (fun hb => ?_) <;> (repeat (first | replace hb := Zam hb | replace hb := Zan hb)) <;> (try (exfalso; omega)))))
       (refine Zbx 9 rfl ?_)
       all_goals ((apply Za2 0 rfl (by decide +kernel) rfl (by repeat (first | exact Za5)) Za0; (first | exact Za3 rfl); exact rfl))
       all_goals ((apply Za2 1 rfl (by decide +kernel) rfl (by repeat (first | exact Za5)) Za0; (first | exact Za3 rfl); exact rfl))
       all_goals ((apply Za2 2 rfl (by decide +kernel) rfl (by repeat (first | exact Za5)) Za0; (first | (apply Zak; first | exact Zar rfl rfl rfl)); exact rfl))
       all_goals ((apply Zb0 3 rfl (by decide +kernel) rfl (by decide +kernel) (by repeat (exact Za5)) Za0; ((apply Za7; exact Zb2 rfl rfl)); exact rfl))
       all_goals ((apply Za2 4 rfl (by decide +kernel) rfl (by repeat (first | exact Za5)) Za0; (first | exact Za3 rfl); exact rfl))
       all_goals ((apply Za2 5 rfl (by decide +kernel) rfl (by repeat (first | exact Za5)) Za0; (first | exact Za3 rfl); exact rfl))
       all_goals ((apply Za2 6 rfl (by decide +kernel) rfl (by repeat (first | exact Za5)) Za0; (first | (apply Zak; first | exact Zar rfl rfl rfl)); exact rfl))
       all_goals ((apply Zb0 7 rfl (by decide +kernel) rfl (by decide +kernel) (by repeat (exact Za5)) Za0; ((apply Za7; exact Zb2 rfl rfl)); exact rfl))
       all_goals ((apply Za2 8 rfl (by decide +kernel) rfl (by repeat (first | exact Za5)) Za0; (first | (apply Zah; first | exact WT_aneD inferInstance rfl rfl)); exact rfl))
       all_goals (refine Zb9 (by decide +kernel) ?_)
       all_goals ((repeat' (first | refine Za8 ?_ | refine Za1 ?_ | refine Za6 ?_ | (apply Za9; (first | exact Za3 rfl | exact Za4 rfl | (apply Zah; exact Zbf rfl rfl)); exact rfl) | refine Zag ?_ | refine Zaq ?_ | (refine Zac rfl (fun hb => ?_) (fun hb => ?_) <;> (repeat (first | replace hb := Zam hb | replace hb := Zan hb | replace hb := Zbr hb | replace hb := Zbs hb)) <;> (try (exfalso; fail))))))
       all_goals (try (exfalso; simp_all; done))
       refine ⟨.inr rfl, ret1 rfl (.tmp rfl) (List.nil_sublist _) ⟨congrArg exB ?_, rfl⟩⟩
       exact (decide_eq_false fun e => he (by subst e; rfl)).symm
   · have hk9 : k = a.length := by omega
     subst hk9
     rw [List.take_length, hl, List.take_length] at ht
     (repeat' (first | refine Za8 ?_ | refine Za1 ?_ | refine Za6 ?_ | (apply Za9; (first | exact Za3 rfl | exact Za4 rfl | (apply Zah; exact Zau rfl rfl) | (apply Zax; exact Zb3 rfl rfl)); exact rfl) | refine Zaq ?_ | refine Zbk ?_ | (refine Zac rfl (fun hb => ?_) (fun hb => ?_) <;> (repeat (first | replace hb := Zam hb | replace hb := Zan hb)) <;> (try (exfalso; omega)))))
     refine ⟨.inr rfl, ret1 rfl (.tmp rfl) (List.nil_sublist _) ⟨congrArg exB ?_, rfl⟩⟩
     exact (decide_eq_true ht).symm
 · (repeat' (first | refine Za8 ?_ | refine Za1 ?_ | refine Za6 ?_ | (apply Za9; (first | exact Za3 rfl | exact Za4 rfl | (apply Zah; exact Zc3 rfl rfl) | (apply Zax; exact Zb3 rfl rfl)); exact rfl) | refine Zaq ?_ | (refine Zac rfl (fun hb => ?_) (fun hb => ?_) <;> (repeat (first | replace hb := Zam hb | replace hb := Zan hb | replace hb := Zbr hb | replace hb := Zbs hb)) <;> (try (exfalso; omega)))))
   all_goals (try (exfalso; omega))
   refine ⟨.inr rfl, ret1 rfl (.tmp rfl) (List.nil_sublist _) ⟨congrArg exB ?_, rfl⟩⟩
   exact (decide_eq_false fun e => hl (by rw [e])).symm
set_option maxHeartbeats 1000000 in
set_option maxRecDepth 100000 in
theorem sameTies_any (a b : List TieD) : FnC Tryz.prog 71 [isl eTie a, isl eTie b] [] (fun p loc => p = exB (decide (a = b)) ∧ loc = []) := by
 refine Zbe (i := 0) rfl Zbl fun ha => ?_
 refine Zbe (i := 1) rfl Zbl fun hb => ?_
 obtain ⟨ha, -⟩ := ha
 obtain ⟨hb, -⟩ := hb
 simp only [maxLen] at ha hb
 refine Zb7 Tryz.func71 rfl Tryz.ntmps71 rfl fun w0 F0 out => ?_
 by_cases hl : a.length = b.length
 · (repeat' (first | refine Za8 ?_ | refine Za1 ?_ | refine Za6 ?_ | (apply Za9; (first | exact Za3 rfl | exact Za4 rfl | (apply Zah; exact Zc3 rfl rfl) | (apply Zax; exact Zb3 rfl rfl)); exact rfl) | refine Zaa ?_ | refine Zag ?_ | (refine Zac rfl (fun hb => ?_) (fun hb => ?_) <;> (repeat (first | replace hb := Zam hb | replace hb := Zan hb | replace hb := Zbr hb | replace hb := Zbs hb)) <;> (try (exfalso; omega)))))
   all_goals (try (exfalso; omega))
   refine Zbv (fun k : Nat => ([(0, isl eTie a), (1, isl eTie b), (5, exI .i64 k)], [])) (fun k => k ≤ a.length ∧ a.take k = b.take k) (fun k => a.length - k) 0 ?_ ⟨Nat.zero_le _, rfl⟩ fun k hk => ?_
   · exact Zae (by repeat (first | exact Zai | refine Zad rfl ?_)) (List.Sublist.refl _)
   obtain ⟨hk, ht⟩ := hk
   by_cases hlt : k < a.length
   · have hlt2 : k < b.length := by omega
     by_cases he : a[k].name = b[k].name ∧ a[k].keys.length = b[k].keys.length
     · obtain ⟨he1, he2⟩ := he
       (repeat' (first | refine Za8 ?_ | refine Za1 ?_ | refine Za6 ?_ | (apply Za9; (first | exact Za3 rfl | (apply Zah; exact Zau rfl rfl) | (apply Zax; exact Zb3 rfl rfl)); exact rfl) | refine Zaa ?_ | refine Zag ?_ | (refine Zac rfl (fun hb => ?_) (fun hb => ?_) <;> (repeat (first | replace hb := Zam hb | replace hb := Zan hb)) <;> (try (exfalso; omega)))))
       (refine Zbx 26 rfl ?_)
       all_goals ((apply Za2 0 rfl (by decide +kernel) rfl (by repeat (first | exact Za5)) Za0; (first | exact Za3 rfl); exact rfl))
       all_goals ((apply Za2 1 rfl (by decide +kernel) rfl (by repeat (first | exact Za5)) Za0; (first | exact Za3 rfl); exact rfl))
       all_goals ((apply Za2 2 rfl (by decide +kernel) rfl (by repeat (first | exact Za5)) Za0; (first | (apply Zak; first | exact Zar rfl rfl rfl)); exact rfl))
       all_goals ((apply Za2 3 rfl (by decide +kernel) rfl (by repeat (first | exact Za5)) Za0; (first | (apply Zat; first | exact Zay rfl rfl rfl)); exact rfl))
       all_goals ((apply Zb0 4 rfl (by decide +kernel) rfl (by decide +kernel) (by repeat (exact Za5)) Za0; ((apply Za7; exact Zb1 rfl rfl)); exact rfl))
       all_goals ((apply Za2 5 rfl (by decide +kernel) rfl (by repeat (first | exact Za5)) Za0; (first | exact Za3 rfl); exact rfl))
       all_goals ((apply Za2 6 rfl (by decide +kernel) rfl (by repeat (first | exact Za5)) Za0; (first | exact Za3 rfl); exact rfl))
       all_goals ((apply Za2 7 rfl (by decide +kernel) rfl (by repeat (first | exact Za5)) Za0; (first | (apply Zak; first | exact Zar rfl rfl rfl)); exact rfl))
       all_goals ((apply Za2 8 rfl (by decide +kernel) rfl (by repeat (first | exact Za5)) Za0; (first | (apply Zat; first | exact Zay rfl rfl rfl)); exact rfl))
       all_goals ((apply Zb0 9 rfl (by decide +kernel) rfl (by decide +kernel) (by repeat (exact Za5)) Za0; ((apply Za7; exact Zb1 rfl rfl)); exact rfl))
       all_goals ((apply Za2 10 rfl (by decide +kernel) rfl (by repeat (first | exact Za5)) Za0; (first | (apply Zah; first | exact WT_tne rfl rfl)); exact rfl))
       all_goals ((apply Za2 11 rfl (by decide +kernel) rfl (by repeat (first | exact Za5)) Za0; (first | exact Za3 rfl); exact rfl))
       all_goals (first | (refine WPY_case 29 rfl (fun hb => ?_) (fun hb => ?_) <;> (repeat (first | replace hb := Zam hb | replace hb := Zan hb | replace hb := Zbr hb | replace hb := Zbs hb)) <;> (try (exfalso; first | (cases hb; done) | omega))) | skip)
       all_goals (first | (refine Zbj 12 rfl (by decide +kernel) rfl (by repeat (exact Za5)) rfl rfl rfl rfl rfl ?_) | (apply Za2 12 rfl (by decide +kernel) rfl (by repeat (exact Za5)) (Zaz rfl rfl rfl); (exact Za3 rfl); exact rfl))
       all_goals (first | (refine Zbj 13 rfl (by decide +kernel) rfl (by repeat (exact Za5)) rfl rfl rfl rfl rfl ?_) | (apply Za2 13 rfl (by decide +kernel) rfl (by repeat (exact Za5)) (Zaz rfl rfl rfl); (exact Za3 rfl); exact rfl))
       all_goals (first | (refine Zbj 14 rfl (by decide +kernel) rfl (by repeat (exact Za5)) rfl rfl rfl rfl rfl ?_) | (apply Za2 14 rfl (by decide +kernel) rfl (by repeat (exact Za5)) (Zaz rfl rfl rfl); ((apply Zak; exact Zar rfl rfl rfl)); exact rfl))
       all_goals (first | (refine Zbj 15 rfl (by decide +kernel) rfl (by repeat (exact Za5)) rfl rfl rfl rfl rfl ?_) | (apply Za2 15 rfl (by decide +kernel) rfl (by repeat (exact Za5)) (Zaz rfl rfl rfl); ((apply Zat; exact Zay rfl rfl rfl)); exact rfl))
       all_goals (first | (refine Zbj 16 rfl (by decide +kernel) rfl (by repeat (exact Za5)) rfl rfl rfl rfl rfl ?_) | (apply Zb0 16 rfl (by decide +kernel) rfl (by decide +kernel) (by repeat (exact Za5)) (Zaz rfl rfl rfl); ((apply Za7; exact Zb1 rfl rfl)); exact rfl))
       all_goals (first | (refine Zbj 17 rfl (by decide +kernel) rfl (by repeat (exact Za5)) rfl rfl rfl rfl rfl ?_) | (apply Za2 17 rfl (by decide +kernel) rfl (by repeat (exact Za5)) (Zaz rfl rfl rfl); ((apply Zax; exact Zb3 rfl rfl)); exact rfl))
       all_goals (first | (refine Zbj 18 rfl (by decide +kernel) rfl (by repeat (exact Za5)) rfl rfl rfl rfl rfl ?_) | (apply Za2 18 rfl (by decide +kernel) rfl (by repeat (exact Za5)) (Zaz rfl rfl rfl); (exact Za3 rfl); exact rfl))
       all_goals (first | (refine Zbj 19 rfl (by decide +kernel) rfl (by repeat (exact Za5)) rfl rfl rfl rfl rfl ?_) | (apply Za2 19 rfl (by decide +kernel) rfl (by repeat (exact Za5)) (Zaz rfl rfl rfl); (exact Za3 rfl); exact rfl))
       all_goals (first | (refine Zbj 20 rfl (by decide +kernel) rfl (by repeat (exact Za5)) rfl rfl rfl rfl rfl ?_) | (apply Za2 20 rfl (by decide +kernel) rfl (by repeat (exact Za5)) (Zaz rfl rfl rfl); ((apply Zak; exact Zar rfl rfl rfl)); exact rfl))
       all_goals (first | (refine Zbj 21 rfl (by decide +kernel) rfl (by repeat (exact Za5)) rfl rfl rfl rfl rfl ?_) | (apply Za2 21 rfl (by decide +kernel) rfl (by repeat (exact Za5)) (Zaz rfl rfl rfl); ((apply Zat; exact Zay rfl rfl rfl)); exact rfl))
       all_goals (first | (refine Zbj 22 rfl (by decide +kernel) rfl (by repeat (exact Za5)) rfl rfl rfl rfl rfl ?_) | (apply Zb0 22 rfl (by decide +kernel) rfl (by decide +kernel) (by repeat (exact Za5)) (Zaz rfl rfl rfl); ((apply Za7; exact Zb1 rfl rfl)); exact rfl))
       all_goals (first | (refine Zbj 23 rfl (by decide +kernel) rfl (by repeat (exact Za5)) rfl rfl rfl rfl rfl ?_) | (apply Za2 23 rfl (by decide +kernel) rfl (by repeat (exact Za5)) (Zaz rfl rfl rfl); ((apply Zax; exact Zb3 rfl rfl)); exact rfl))
       all_goals (first | (refine Zbj 24 rfl (by decide +kernel) rfl (by repeat (exact Za5)) rfl rfl rfl rfl rfl ?_) | (apply Za2 24 rfl (by decide +kernel) rfl (by repeat (exact Za5)) (Zaz rfl rfl rfl); ((apply Zah; exact Zc3 rfl rfl)); exact rfl))
       all_goals ((apply Za2 25 rfl (by decide +kernel) rfl (by repeat (exact Za5)) Za0; (first | exact Zas (b := true) rfl (fun _ => rfl) (fun e => by cases e) | exact Zas (b := false) rfl (fun e => by cases e) (fun _ => rfl)); exact rfl))
       all_goals (refine Zb9 (by decide +kernel) ?_)
       all_goals (try (exfalso; first | contradiction | omega))
       refine WP_says (t := 34) rfl Zbl fun hlk => ?_
       obtain ⟨hlk, -⟩ := hlk
       simp only [maxLen] at hlk
       (repeat' (first | refine Za8 ?_ | refine Za1 ?_ | refine Za6 ?_ | (apply Za9; (exact Za4 rfl); exact rfl) | refine Zaa ?_ | refine Zag ?_ | (refine Zac rfl (fun hb => ?_) (fun hb => ?_) <;> (repeat (first | replace hb := Zam hb | replace hb := Zan hb | replace hb := Zbr hb | replace hb := Zbs hb)) <;> (try (exfalso; omega)))))
       all_goals (try (exfalso; first | contradiction | omega))
       refine Zbv (fun q : Nat => ([(0, isl eTie a), (1, isl eTie b), (5, exI .i64 k), (6, exI .i64 q)], [])) (fun q => q ≤ a[k].keys.length ∧ a[k].keys.take q = b[k].keys.take q) (fun q => a[k].keys.length - q) 0 ?_ ⟨Nat.zero_le _, rfl⟩ fun q hq => ?_
       · exact Zae (by repeat (first | exact Zai | refine Zad rfl ?_)) (List.Sublist.refl _)
       obtain ⟨hq, htq⟩ := hq
       by_cases hltq : q < a[k].keys.length
       · by_cases hek : a[k].keys[q] = b[k].keys[q]'(by omega)
         · (repeat' (first | refine Za8 ?_ | refine Za1 ?_ | refine Za6 ?_ | (apply Za9; (first | exact Za3 rfl | (apply Za7; exact Zb1 rfl rfl) | (apply Zat; exact Zay rfl rfl rfl) | (apply Zah; exact Zau rfl rfl) | (apply Zak; exact Zar rfl rfl rfl) | (apply Zax; exact Zb3 rfl rfl)); exact rfl) | refine Zaa ?_ | refine Zag ?_ | (refine Zac rfl (fun hb => ?_) (fun hb => ?_) <;> (repeat (first | replace hb := Zam hb | replace hb := Zan hb)) <;> (try (exfalso; omega)))))
           (refine Zbx 17 rfl ?_)
           all_goals ((apply Za2 0 rfl (by decide +kernel) rfl (by repeat (first | exact Za5)) Za0; (first | exact Za3 rfl); exact rfl))
           all_goals ((apply Za2 1 rfl (by decide +kernel) rfl (by repeat (first | exact Za5)) Za0; (first | exact Za3 rfl); exact rfl))
           all_goals ((apply Za2 2 rfl (by decide +kernel) rfl (by repeat (first | exact Za5)) Za0; (first | (apply Zak; first | exact Zar rfl rfl rfl)); exact rfl))
           all_goals ((apply Za2 3 rfl (by decide +kernel) rfl (by repeat (first | exact Za5)) Za0; (first | (apply Zat; first | exact Zay rfl rfl rfl)); exact rfl))
           all_goals ((apply Zb0 4 rfl (by decide +kernel) rfl (by decide +kernel) (by repeat (exact Za5)) Za0; ((apply Za7; exact Zb1 rfl rfl)); exact rfl))
           all_goals ((apply Za2 5 rfl (by decide +kernel) rfl (by repeat (first | exact Za5)) Za0; (first | exact Za3 rfl); exact rfl))
           all_goals ((apply Za2 6 rfl (by decide +kernel) rfl (by repeat (first | exact Za5)) Za0; (first | (apply Zak; first | exact Zar rfl rfl rfl)); exact rfl))
           all_goals ((apply Zb0 7 rfl (by decide +kernel) rfl (by decide +kernel) (by repeat (exact Za5)) Za0; ((apply Za7; exact Zb2 rfl rfl)); exact rfl))
           all_goals ((apply Za2 8 rfl (by decide +kernel) rfl (by repeat (first | exact Za5)) Za0; (first | exact Za3 rfl); exact rfl))
           all_goals ((apply Za2 9 rfl (by decide +kernel) rfl (by repeat (first | exact Za5)) Za0; (first | exact Za3 rfl); exact rfl))
           all_goals ((apply Za2 10 rfl (by decide +kernel) rfl (by repeat (first | exact Za5)) Za0; (first | (apply Zak; first | exact Zar rfl rfl rfl)); exact rfl))
           all_goals ((apply Za2 11 rfl (by decide +kernel) rfl (by repeat (first | exact Za5)) Za0; (first | (apply Zat; first | exact Zay rfl rfl rfl)); exact rfl))
           all_goals ((apply Zb0 12 rfl (by decide +kernel) rfl (by decide +kernel) (by repeat (exact Za5)) Za0; ((apply Za7; exact Zb1 rfl rfl)); exact rfl))
           all_goals ((apply Za2 13 rfl (by decide +kernel) rfl (by repeat (first | exact Za5)) Za0; (first | exact Za3 rfl); exact rfl))
           all_goals ((apply Za2 14 rfl (by decide +kernel) rfl (by repeat (first | exact Za5)) Za0; (first | (apply Zak; first | exact Zar rfl rfl rfl)); exact rfl))
           all_goals ((apply Zb0 15 rfl (by decide +kernel) rfl (by decide +kernel) (by repeat (exact Za5)) Za0; ((apply Za7; exact Zb2 rfl rfl)); exact rfl))
           all_goals ((apply Za2 16 rfl (by decide +kernel) rfl (by repeat (first | exact Za5)) Za0; (first | (apply Zah; first | exact WT_aneD inferInstance rfl rfl)); exact rfl))
           all_goals (refine Zb9 (by decide +kernel) ?_)
           all_goals ((repeat' (first | refine Za8 ?_ | refine Za1 ?_ | refine Za6 ?_ | (apply Za9; (first | exact Za3 rfl | exact Za4 rfl | (apply Zah; exact Zbf rfl rfl)); exact rfl) | refine Zag ?_ | refine Zaq ?_ | (refine Zac rfl (fun hb => ?_) (fun hb => ?_) <;> (repeat (first | replace hb := Zam hb | replace hb := Zan hb | replace hb := Zbr hb | replace hb := Zbs hb)) <;> (try (exfalso; fail))))))
           all_goals (try (exfalso; simp_all; done))
           exact ⟨q + 1, ⟨by omega, by rw [List.take_succ_eq_append_getElem hltq, List.take_succ_eq_append_getElem (by omega), htq, hek]⟩, by omega, Zae (by repeat (first | exact Zai | refine Zad rfl ?_)) (List.Sublist.refl _)⟩
         · (repeat' (first | refine Za8 ?_ | refine Za1 ?_ | refine Za6 ?_ | (apply Za9; (first | exact Za3 rfl | (apply Za7; exact Zb1 rfl rfl) | (apply Zat; exact Zay rfl rfl rfl) | (apply Zah; exact Zau rfl rfl) | (apply Zak; exact Zar rfl rfl rfl) | (apply Zax; exact Zb3 rfl rfl)); exact rfl) | refine Zaa ?_ | refine Zag ?_ | (refine Zac rfl (fun hb => ?_) (fun hb => ?_) <;> (repeat (first | replace hb := Zam hb | replace hb := Zan hb)) <;> (try (exfalso; omega)))))
           (refine Zbx 17 rfl ?_)
           all_goals ((apply Za2 0 rfl (by decide +kernel) rfl (by repeat (first | exact Za5)) Za0; (first | exact Za3 rfl); exact rfl))
           all_goals ((apply Za2 1 rfl (by decide +kernel) rfl (by repeat (first | exact Za5)) Za0; (first | exact Za3 rfl); exact rfl))
           all_goals ((apply Za2 2 rfl (by decide +kernel) rfl (by repeat (first | exact Za5)) Za0; (first | (apply Zak; first | exact Zar rfl rfl rfl)); exact rfl))
           all_goals ((apply Za2 3 rfl (by decide +kernel) rfl (by repeat (first | exact Za5)) Za0; (first | (apply Zat; first | exact Zay rfl rfl rfl)); exact rfl))
           all_goals ((apply Zb0 4 rfl (by decide +kernel) rfl (by decide +kernel) (by repeat (exact Za5)) Za0; ((apply Za7; exact Zb1 rfl rfl)); exact rfl))
           all_goals ((apply Za2 5 rfl (by decide +kernel) rfl (by repeat (first | exact Za5)) Za0; (first | exact Za3 rfl); exact rfl))
           all_goals ((apply Za2 6 rfl (by decide +kernel) rfl (by repeat (first | exact Za5)) Za0; (first | (apply Zak; first | exact Zar rfl rfl rfl)); exact rfl))
           all_goals ((apply Zb0 7 rfl (by decide +kernel) rfl (by decide +kernel) (by repeat (exact Za5)) Za0; ((apply Za7; exact Zb2 rfl rfl)); exact rfl))
           all_goals ((apply Za2 8 rfl (by decide +kernel) rfl (by repeat (first | exact Za5)) Za0; (first | exact Za3 rfl); exact rfl))
           all_goals ((apply Za2 9 rfl (by decide +kernel) rfl (by repeat (first | exact Za5)) Za0; (first | exact Za3 rfl); exact rfl))
           all_goals ((apply Za2 10 rfl (by decide +kernel) rfl (by repeat (first | exact Za5)) Za0; (first | (apply Zak; first | exact Zar rfl rfl rfl)); exact rfl))
           all_goals ((apply Za2 11 rfl (by decide +kernel) rfl (by repeat (first | exact Za5)) Za0; (first | (apply Zat; first | exact Zay rfl rfl rfl)); exact rfl))
           all_goals ((apply Zb0 12 rfl (by decide +kernel) rfl (by decide +kernel) (by repeat (exact Za5)) Za0; ((apply Za7; exact Zb1 rfl rfl)); exact rfl))
           all_goals ((apply Za2 13 rfl (by decide +kernel) rfl (by repeat (first | exact Za5)) Za0; (first | exact Za3 rfl); exact rfl))
           all_goals ((apply Za2 14 rfl (by decide +kernel) rfl (by repeat (first | exact Za5)) Za0; (first | (apply Zak; first | exact Zar rfl rfl rfl)); exact rfl))
           all_goals ((apply Zb0 15 rfl (by decide +kernel) rfl (by decide +kernel) (by repeat (exact Za5)) Za0; ((apply Za7; exact Zb2 rfl rfl)); exact rfl))
           all_goals ((apply Za2 16 rfl (by decide +kernel) rfl (by repeat (first | exact Za5)) Za0; (first | (apply Zah; first | exact WT_aneD inferInstance rfl rfl)); exact rfl))
           all_goals (refine Zb9 (by decide +kernel) ?_)
           all_goals ((repeat' (first | refine Za8 ?_ | refine Za1 ?_ | refine Za6 ?_ | (apply Za9; (first | exact Za3 rfl | exact Za4 rfl | (apply Zah; exact Zbf rfl rfl)); exact rfl) | refine Zag ?_ | refine Zaq ?_ | (refine Zac rfl (fun hb => ?_) (fun hb => ?_) <;> (repeat (first | replace hb := Zam hb | replace hb := Zan hb | replace hb := Zbr hb | replace hb := Zbs hb)) <;> (try (exfalso; fail))))))
           all_goals (try (exfalso; simp_all; done))
           refine ⟨.inr rfl, ret1 rfl (.tmp rfl) (List.nil_sublist _) ⟨congrArg exB ?_, rfl⟩⟩
           exact (decide_eq_false fun e => hek (by subst e; rfl)).symm
       · have hk9 : q = a[k].keys.length := by omega
         subst hk9
         rw [List.take_length, he2, List.take_length] at htq
         (repeat' (first | refine Za8 ?_ | refine Za1 ?_ | refine Za6 ?_ | (apply Za9; (first | exact Za3 rfl | exact Za4 rfl | (apply Za7; exact Zb1 rfl rfl) | (apply Zat; exact Zay rfl rfl rfl) | (apply Zah; first | exact Zau rfl rfl | exact Zbf rfl rfl) | (apply Zak; exact Zar rfl rfl rfl) | (apply Zax; exact Zb3 rfl rfl)); exact rfl) | refine Zbk ?_ | (refine Zac rfl (fun hb => ?_) (fun hb => ?_) <;> (repeat (first | replace hb := Zam hb | replace hb := Zan hb)) <;> (try (exfalso; omega)))))
         all_goals (try (exfalso; omega))
         have hek : a[k] = b[k] := by
           cases h1 : a[k]; cases h2 : b[k]
           rw [h1, h2] at he1 htq
           simp only at he1 htq
           rw [he1, htq]
         exact ⟨k + 1, ⟨by omega, by rw [List.take_succ_eq_append_getElem hlt, List.take_succ_eq_append_getElem (by omega), ht, hek]⟩, by omega, Zae (by repeat (first | exact Zai | refine Zad rfl ?_)) (List.Sublist.refl _)⟩
     · have hne : a ≠ b := fun e => he (by subst e; exact ⟨rfl, rfl⟩)
       rw [decide_eq_false hne]
       (repeat' (first | refine Za8 ?_ | refine Za1 ?_ | refine Za6 ?_ | (apply Za9; (first | exact Za3 rfl | (apply Zah; exact Zau rfl rfl) | (apply Zax; exact Zb3 rfl rfl)); exact rfl) | refine Zaa ?_ | refine Zag ?_ | (refine Zac rfl (fun hb => ?_) (fun hb => ?_) <;> (repeat (first | replace hb := Zam hb | replace hb := Zan hb)) <;> (try (exfalso; omega)))))
       (refine Zbx 26 rfl ?_)
       all_goals ((apply Za2 0 rfl (by decide +kernel) rfl (by repeat (first | exact Za5)) Za0; (first | exact Za3 rfl); exact rfl))
       all_goals ((apply Za2 1 rfl (by decide +kernel) rfl (by repeat (first | exact Za5)) Za0; (first | exact Za3 rfl); exact rfl))
       all_goals ((apply Za2 2 rfl (by decide +kernel) rfl (by repeat (first | exact Za5)) Za0; (first | (apply Zak; first | exact Zar rfl rfl rfl)); exact rfl))
       all_goals ((apply Za2 3 rfl (by decide +kernel) rfl (by repeat (first | exact Za5)) Za0; (first | (apply Zat; first | exact Zay rfl rfl rfl)); exact rfl))
       all_goals ((apply Zb0 4 rfl (by decide +kernel) rfl (by decide +kernel) (by repeat (exact Za5)) Za0; ((apply Za7; exact Zb1 rfl rfl)); exact rfl))
       all_goals ((apply Za2 5 rfl (by decide +kernel) rfl (by repeat (first | exact Za5)) Za0; (first | exact Za3 rfl); exact rfl))
       all_goals ((apply Za2 6 rfl (by decide +kernel) rfl (by repeat (first | exact Za5)) Za0; (first | exact Za3 rfl); exact rfl))
       all_goals ((apply Za2 7 rfl (by decide +kernel) rfl (by repeat (first | exact Za5)) Za0; (first | (apply Zak; first | exact Zar rfl rfl rfl)); exact rfl))
       all_goals ((apply Za2 8 rfl (by decide +kernel) rfl (by repeat (first | exact Za5)) Za0; (first | (apply Zat; first | exact Zay rfl rfl rfl)); exact rfl))
       all_goals ((apply Zb0 9 rfl (by decide +kernel) rfl (by decide +kernel) (by repeat (exact Za5)) Za0; ((apply Za7; exact Zb1 rfl rfl)); exact rfl))
       all_goals ((apply Za2 10 rfl (by decide +kernel) rfl (by repeat (first | exact Za5)) Za0; (first | (apply Zah; first | exact WT_tne rfl rfl)); exact rfl))
       all_goals ((apply Za2 11 rfl (by decide +kernel) rfl (by repeat (first | exact Za5)) Za0; (first | exact Za3 rfl); exact rfl))
       all_goals (first | (refine WPY_case 29 rfl (fun hb => ?_) (fun hb => ?_) <;> (repeat (first | replace hb := Zam hb | replace hb := Zan hb | replace hb := Zbr hb | replace hb := Zbs hb)) <;> (try (exfalso; first | (cases hb; done) | omega))) | skip)
       all_goals (first | (refine Zbj 12 rfl (by decide +kernel) rfl (by repeat (exact Za5)) rfl rfl rfl rfl rfl ?_) | (apply Za2 12 rfl (by decide +kernel) rfl (by repeat (exact Za5)) (Zaz rfl rfl rfl); (exact Za3 rfl); exact rfl))
       all_goals (first | (refine Zbj 13 rfl (by decide +kernel) rfl (by repeat (exact Za5)) rfl rfl rfl rfl rfl ?_) | (apply Za2 13 rfl (by decide +kernel) rfl (by repeat (exact Za5)) (Zaz rfl rfl rfl); (exact Za3 rfl); exact rfl))
       all_goals (first | (refine Zbj 14 rfl (by decide +kernel) rfl (by repeat (exact Za5)) rfl rfl rfl rfl rfl ?_) | (apply Za2 14 rfl (by decide +kernel) rfl (by repeat (exact Za5)) (Zaz rfl rfl rfl); ((apply Zak; exact Zar rfl rfl rfl)); exact rfl))
       all_goals (first | (refine Zbj 15 rfl (by decide +kernel) rfl (by repeat (exact Za5)) rfl rfl rfl rfl rfl ?_) | (apply Za2 15 rfl (by decide +kernel) rfl (by repeat (exact Za5)) (Zaz rfl rfl rfl); ((apply Zat; exact Zay rfl rfl rfl)); exact rfl))
       all_goals (first | (refine Zbj 16 rfl (by decide +kernel) rfl (by repeat (exact Za5)) rfl rfl rfl rfl rfl ?_) | (apply Zb0 16 rfl (by decide +kernel) rfl (by decide +kernel) (by repeat (exact Za5)) (Zaz rfl rfl rfl); ((apply Za7; exact Zb1 rfl rfl)); exact rfl))
       all_goals (first | (refine Zbj 17 rfl (by decide +kernel) rfl (by repeat (exact Za5)) rfl rfl rfl rfl rfl ?_) | (apply Za2 17 rfl (by decide +kernel) rfl (by repeat (exact Za5)) (Zaz rfl rfl rfl); ((apply Zax; exact Zb3 rfl rfl)); exact rfl))
       all_goals (first | (refine Zbj 18 rfl (by decide +kernel) rfl (by repeat (exact Za5)) rfl rfl rfl rfl rfl ?_) | (apply Za2 18 rfl (by decide +kernel) rfl (by repeat (exact Za5)) (Zaz rfl rfl rfl); (exact Za3 rfl); exact rfl))
       all_goals (first | (refine Zbj 19 rfl (by decide +kernel) rfl (by repeat (exact Za5)) rfl rfl rfl rfl rfl ?_) | (apply Za2 19 rfl (by decide +kernel) rfl (by repeat (exact Za5)) (Zaz rfl rfl rfl); (exact Za3 rfl); exact rfl))
       all_goals (first | (refine Zbj 20 rfl (by decide +kernel) rfl (by repeat (exact Za5)) rfl rfl rfl rfl rfl ?_) | (apply Za2 20 rfl (by decide +kernel) rfl (by repeat (exact Za5)) (Zaz rfl rfl rfl); ((apply Zak; exact Zar rfl rfl rfl)); exact rfl))
       all_goals (first | (refine Zbj 21 rfl (by decide +kernel) rfl (by repeat (exact Za5)) rfl rfl rfl rfl rfl ?_) | (apply Za2 21 rfl (by decide +kernel) rfl (by repeat (exact Za5)) (Zaz rfl rfl rfl); ((apply Zat; exact Zay rfl rfl rfl)); exact rfl))
       all_goals (first | (refine Zbj 22 rfl (by decide +kernel) rfl (by repeat (exact Za5)) rfl rfl rfl rfl rfl ?_) | (apply Zb0 22 rfl (by decide +kernel) rfl (by decide +kernel) (by repeat (exact Za5)) (Zaz rfl rfl rfl); ((apply Za7; exact Zb1 rfl rfl)); exact rfl))
       all_goals (first | (refine Zbj 23 rfl (by decide +kernel) rfl (by repeat (exact Za5)) rfl rfl rfl rfl rfl ?_) | (apply Za2 23 rfl (by decide +kernel) rfl (by repeat (exact Za5)) (Zaz rfl rfl rfl); ((apply Zax; exact Zb3 rfl rfl)); exact rfl))
       all_goals (first | (refine Zbj 24 rfl (by decide +kernel) rfl (by repeat (exact Za5)) rfl rfl rfl rfl rfl ?_) | (apply Za2 24 rfl (by decide +kernel) rfl (by repeat (exact Za5)) (Zaz rfl rfl rfl); ((apply Zah; exact Zc3 rfl rfl)); exact rfl))
       all_goals ((apply Za2 25 rfl (by decide +kernel) rfl (by repeat (exact Za5)) Za0; (first | exact Zas (b := true) rfl (fun _ => rfl) (fun e => by cases e) | exact Zas (b := false) rfl (fun e => by cases e) (fun _ => rfl)); exact rfl))
       all_goals (refine Zb9 (by decide +kernel) ?_)
       all_goals ((repeat' (first | refine Za8 ?_ | refine Za1 ?_ | refine Za6 ?_ | (apply Za9; (exact Za4 rfl); exact rfl) | refine Zaa ?_ | refine Zag ?_ | refine Zaq ?_ | refine Zb4 rfl ?_ | (refine Zac rfl (fun hb => ?_) (fun hb => ?_) <;> (repeat (first | replace hb := Zam hb | replace hb := Zan hb | replace hb := Zbr hb | replace hb := Zbs hb)) <;> (try (exfalso; fail))))))
       all_goals first | exact ⟨.inr rfl, ret1 rfl (.tmp rfl) (List.nil_sublist _) ⟨rfl, rfl⟩⟩ | (exfalso; refine he ⟨?_, ?_⟩ <;> first | assumption | omega)
   · have hk9 : k = a.length := by omega
     subst hk9
     rw [List.take_length, hl, List.take_length] at ht
     (repeat' (first | refine Za8 ?_ | refine Za1 ?_ | refine Za6 ?_ | (apply Za9; (first | exact Za3 rfl | exact Za4 rfl | (apply Zah; exact Zau rfl rfl) | (apply Zax; exact Zb3 rfl rfl)); exact rfl) | refine Zaq ?_ | refine Zbk ?_ | (refine Zac rfl (fun hb => ?_) (fun hb => ?_) <;> (repeat (first | replace hb := Zam hb | replace hb := Zan hb)) <;> (try (exfalso; omega)))))
     refine ⟨.inr rfl, ret1 rfl (.tmp rfl) (List.nil_sublist _) ⟨congrArg exB ?_, rfl⟩⟩
     exact (decide_eq_true ht).symm
 · (repeat' (first | refine Za8 ?_ | refine Za1 ?_ | refine Za6 ?_ | (apply Za9; (first | exact Za3 rfl | exact Za4 rfl | (apply Zah; exact Zc3 rfl rfl) | (apply Zax; exact Zb3 rfl rfl)); exact rfl) | refine Zaq ?_ | (refine Zac rfl (fun hb => ?_) (fun hb => ?_) <;> (repeat (first | replace hb := Zam hb | replace hb := Zan hb | replace hb := Zbr hb | replace hb := Zbs hb)) <;> (try (exfalso; omega)))))
   all_goals (try (exfalso; omega))
   refine ⟨.inr rfl, ret1 rfl (.tmp rfl) (List.nil_sublist _) ⟨congrArg exB ?_, rfl⟩⟩
   exact (decide_eq_false fun e => hl (by rw [e])).symm
end Go.Proofs.YthldagplhklbnaaGreatDoor
namespace Go.Proofs.YthldagplhklbnaaGreatDoor
open Go Go.RowKit Go.Kx Go.Fr
theorem round_iff (x y : RoundD) : x = y ↔ x.name = y.name ∧ x.panel = y.panel ∧ x.quota = y.quota ∧ x.cut = y.cut ∧ x.places = y.places ∧ x.free = y.free ∧ x.tie = y.tie ∧ x.tieNo = y.tieNo ∧ x.score = y.score := by
 cases x; cases y
 rw [RoundD.mk.injEq]
 exact ⟨fun ⟨h1, h2, h3, h4, h5, h6, h7, h8, h9⟩ => ⟨h1, h2, h3, h4, h5, h6, h8, h9, h7⟩, fun ⟨h1, h2, h3, h4, h5, h6, h8, h9, h7⟩ => ⟨h1, h2, h3, h4, h5, h6, h7, h8, h9⟩⟩
set_option maxHeartbeats 2000000 in
set_option maxRecDepth 100000 in
theorem sameRound_any (k j : Nat) (x y : RoundD) : FnC Tryz.prog 72 [agg (roundV k x), agg (roundV j y)] [] (fun p loc => p = exB (decide (x = y)) ∧ loc = []) := by
 refine Zb7 Tryz.func72 rfl Tryz.ntmps72 rfl fun w0 F0 out => ?_
 (repeat' (first | refine Za8 ?_ | refine Za1 ?_ | refine Za6 ?_ | (apply Za9; (first | exact Za3 rfl | exact Za4 rfl | exact Zas (b := true) rfl (fun _ => rfl) (fun e => by cases e) | exact Zas (b := false) rfl (fun e => by cases e) (fun _ => rfl) | (apply Za7; first | exact Zab (k := 0) rfl rfl rfl rfl | exact Zab (k := 1) rfl rfl rfl rfl) | (apply Zat; exact Zaf rfl rfl rfl) | (apply Zah; first | exact WT_tne rfl rfl | exact WT_beq rfl rfl rfl)); exact rfl) | (refine Zbq rfl rfl rfl rfl rfl ?_) | (apply Zbt; exact rfl; exact rfl; exact rfl; (first | (apply Za7; first | exact Zab (k := 0) rfl rfl rfl rfl | exact Zab (k := 1) rfl rfl rfl rfl | exact Zb6 (k := 0) rfl rfl rfl | exact Zb6 (k := 1) rfl rfl rfl) | (apply Zat; exact Zaf rfl rfl rfl) | (apply Zah; first | exact WT_teq rfl rfl | exact Zcd rfl rfl | exact Zc3 rfl rfl | exact WT_bne rfl rfl rfl)); exact rfl) | refine Zag ?_ | refine Zaq ?_ | refine Zb4 rfl ?_ | (apply Zaj; exact rfl; (apply Zc9; refine Zbz rfl ?_; intro _)) | (apply Zc8; exact rfl; exact rfl; exact rfl; exact rfl; (apply Zao; (refine Zaw Tryz.func74 rfl (sameExpr_any _ _ _ _) rfl ?_; rintro _ _ ⟨rfl, rfl⟩))) | (refine Zbm rfl rfl (fun hb => ?_) (fun hb => ?_) <;> (repeat (first | replace hb := Zam hb | replace hb := Zan hb | replace hb := Zbr hb | replace hb := Zbs hb)) <;> (try (exfalso; fail))) | (refine Zac rfl (fun hb => ?_) (fun hb => ?_) <;> (repeat (first | replace hb := Zam hb | replace hb := Zan hb | replace hb := Zbr hb | replace hb := Zbs hb)) <;> (try (exfalso; fail)))))
 all_goals (refine ⟨.inr rfl, ret1 rfl (.tmp rfl) (List.nil_sublist _) ⟨congrArg exB ?_, rfl⟩⟩)
 all_goals (rw [Bool.eq_iff_iff]; simp only [decide_eq_true_eq, round_iff, Bool.false_eq_true, false_iff, *])
 all_goals simp
theorem rules_iff (x y : RulesD) : x = y ↔ x.name = y.name ∧ x.best = y.best ∧ x.bonus = y.bonus ∧ x.malus = y.malus ∧ x.ties = y.ties ∧ x.crits = y.crits ∧ x.rounds = y.rounds ∧ x.prizes = y.prizes ∧ x.points = y.points := by
 cases x; cases y
 rw [RulesD.mk.injEq]
 exact ⟨fun ⟨h1, h2, h3, h4, h5, h6, h7, h8, h9⟩ => ⟨h1, h9, h3, h4, h5, h2, h6, h7, h8⟩, fun ⟨h1, h9, h3, h4, h5, h2, h6, h7, h8⟩ => ⟨h1, h2, h3, h4, h5, h6, h7, h8, h9⟩⟩
abbrev rul (k : Nat) (r : RulesD) : SP := agg (rulesV k r)
set_option maxHeartbeats 4000000 in
set_option maxRecDepth 100000 in
theorem same14_any (k j : Nat) (x y : RulesD) : FnC Tryz.prog 31 [rul k x, rul j y] [] (fun p loc => p = exB (decide (x = y)) ∧ loc = []) := by
 refine Zbe (i := 0) rfl (Zca (i := 1) rfl Zbl) fun hc1 => ?_
 refine Zbe (i := 1) rfl (Zca (i := 1) rfl Zbl) fun hc2 => ?_
 refine Zbe (i := 0) rfl (Zca (i := 5) rfl Zbl) fun hr1 => ?_
 refine Zbe (i := 1) rfl (Zca (i := 5) rfl Zbl) fun hr2 => ?_
 refine Zbe (i := 0) rfl (Zca (i := 6) rfl Zbl) fun hp1 => ?_
 refine Zbe (i := 1) rfl (Zca (i := 6) rfl Zbl) fun hp2 => ?_
 refine Zbe (i := 0) rfl (Zca (i := 7) rfl Zbl) fun hq1 => ?_
 refine Zbe (i := 1) rfl (Zca (i := 7) rfl Zbl) fun hq2 => ?_
 replace hc1 := hc1.1; replace hc2 := hc2.1; replace hr1 := hr1.1; replace hr2 := hr2.1
 replace hp1 := hp1.2; replace hp2 := hp2.2; replace hq1 := hq1.2; replace hq2 := hq2.2
 simp only [eI] at hp1 hp2 hq1 hq2
 simp only [maxLen] at hc1 hc2 hr1 hr2
 refine Zb7 Tryz.func31 rfl Tryz.ntmps31 rfl fun w0 F0 out => ?_
 by_cases h0 : x.name = y.name ∧ x.best = y.best ∧ x.crits.length = y.crits.length ∧ x.rounds.length = y.rounds.length ∧ x.bonus = y.bonus ∧ x.malus = y.malus ∧ x.ties = y.ties
 · obtain ⟨h1, h2, h3, h4, h5, h6, h7⟩ := h0
   (repeat' (first | refine Za8 ?_ | refine Za1 ?_ | refine Za6 ?_ | (apply Za9; (first | exact Za3 rfl | exact Za4 rfl | exact Zas (b := true) rfl (fun _ => rfl) (fun e => by cases e) | exact Zas (b := false) rfl (fun e => by cases e) (fun _ => rfl) | (apply Za7; first | exact Zab (k := 0) rfl rfl rfl rfl | exact Zab (k := 1) rfl rfl rfl rfl) | (apply Zat; exact Zaf rfl rfl rfl) | (apply Zah; exact WT_tne rfl rfl)); exact rfl) | (refine Zbq rfl rfl rfl rfl rfl ?_) | (apply Zbt; exact rfl; exact rfl; exact rfl; (first | (apply Za7; first | exact Zab (k := 0) rfl rfl rfl rfl | exact Zab (k := 1) rfl rfl rfl rfl) | (apply Zat; exact Zaf rfl rfl rfl) | (apply Zah; exact Zc3 rfl rfl) | (apply Zax; exact Zb3 rfl rfl) | (apply g_un; exact Zbg rfl)); exact rfl) | refine Zaa ?_ | refine Zag ?_ | refine Zaq ?_ | refine Zb4 rfl ?_ | (apply Zaj; exact rfl; (apply Zc9; refine Zbz rfl ?_; intro _)) | (apply Zc8; exact rfl; exact rfl; exact rfl; exact rfl; (apply Zao; first | (refine Zaw Tryz.func70 rfl (sameItems_any _ _) rfl ?_; rintro _ _ ⟨rfl, rfl⟩) | (refine Zaw Tryz.func71 rfl (sameTies_any _ _) rfl ?_; rintro _ _ ⟨rfl, rfl⟩))) | (refine Zbm rfl rfl (fun hb => ?_) (fun hb => ?_) <;> (repeat (first | replace hb := Zam hb | replace hb := Zan hb | replace hb := Zbr hb | replace hb := Zbs hb)) <;> (try (exfalso; omega))) | (refine Zac rfl (fun hb => ?_) (fun hb => ?_) <;> (repeat (first | replace hb := Zam hb | replace hb := Zan hb | replace hb := Zbr hb | replace hb := Zbs hb)) <;> (try (exfalso; fail)))))
   all_goals (try (exfalso; first | contradiction | omega))
   rename_i b1 b2 _ _ _ _ _ _
   refine Zbv (fun i : Nat => ([(2, ex (.pointer (some ⟨b1, 0, none⟩))), (3, ex (.pointer (some ⟨b2, 0, none⟩))), (5, exI .i64 (i : Int))], [row b2 28 9 (rulesV j y), row b1 28 9 (rulesV k x)])) (fun i => i ≤ x.crits.length ∧ x.crits.take i = y.crits.take i) (fun i => x.crits.length - i) 0 ?_ ⟨Nat.zero_le _, rfl⟩ fun i hi => ?_
   · exact Zae (by repeat (first | exact Zai | refine Zad rfl ?_)) (List.Sublist.refl _)
   obtain ⟨hi, ht⟩ := hi
   by_cases hlt : i < x.crits.length
   · by_cases he : x.crits[i] = y.crits[i]'(by omega)
     · (repeat' (first | refine Za8 ?_ | refine Za1 ?_ | refine Za6 ?_ | (apply Za9; (first | exact Za3 rfl | (apply Za7; exact Zab (k := 1) rfl rfl rfl rfl) | (apply Zat; exact Zaf rfl rfl rfl) | (apply Zah; exact Zau rfl rfl) | (apply Zax; exact Zb3 rfl rfl)); exact rfl) | refine Zaa ?_ | refine Zag ?_ | (refine Zac rfl (fun hb => ?_) (fun hb => ?_) <;> (repeat (first | replace hb := Zam hb | replace hb := Zan hb)) <;> (try (exfalso; omega)))))
       (refine Zbx 11 rfl ?_)
       all_goals ((apply Za2 0 rfl (by decide +kernel) rfl (by repeat (first | exact Za5)) Za0; (first | (apply Zat; first | exact Zaf rfl rfl rfl)); exact rfl))
       all_goals ((apply Zb0 1 rfl (by decide +kernel) rfl (by decide +kernel) (by repeat (exact Za5)) Za0; ((apply Za7; exact Zab (k := 1) rfl rfl rfl rfl)); exact rfl))
       all_goals ((apply Za2 2 rfl (by decide +kernel) rfl (by repeat (first | exact Za5)) Za0; (first | exact Za3 rfl); exact rfl))
       all_goals ((apply Za2 3 rfl (by decide +kernel) rfl (by repeat (first | exact Za5)) Za0; (first | (apply Zak; first | exact Zar rfl rfl rfl)); exact rfl))
       all_goals ((apply Zb0 4 rfl (by decide +kernel) rfl (by decide +kernel) (by repeat (exact Za5)) Za0; ((apply Za7; exact Zb2 rfl rfl)); exact rfl))
       all_goals ((apply Za2 5 rfl (by decide +kernel) rfl (by repeat (first | exact Za5)) Za0; (first | (apply Zat; first | exact Zaf rfl rfl rfl)); exact rfl))
       all_goals ((apply Zb0 6 rfl (by decide +kernel) rfl (by decide +kernel) (by repeat (exact Za5)) Za0; ((apply Za7; exact Zab (k := 0) rfl rfl rfl rfl)); exact rfl))
       all_goals ((apply Za2 7 rfl (by decide +kernel) rfl (by repeat (first | exact Za5)) Za0; (first | exact Za3 rfl); exact rfl))
       all_goals ((apply Za2 8 rfl (by decide +kernel) rfl (by repeat (first | exact Za5)) Za0; (first | (apply Zak; first | exact Zar rfl rfl rfl)); exact rfl))
       all_goals ((apply Zb0 9 rfl (by decide +kernel) rfl (by decide +kernel) (by repeat (exact Za5)) Za0; ((apply Za7; exact Zb2 rfl rfl)); exact rfl))
       all_goals ((apply Za2 10 rfl (by decide +kernel) rfl (by repeat (first | exact Za5)) Za0; (first | (apply Zah; first | exact WT_aneD inferInstance rfl rfl)); exact rfl))
       all_goals (refine Zb9 (by decide +kernel) ?_)
       all_goals ((repeat' (first | refine Za8 ?_ | refine Za1 ?_ | refine Za6 ?_ | (apply Za9; (first | exact Za3 rfl | exact Za4 rfl | (apply Zah; exact Zbf rfl rfl)); exact rfl) | refine Zag ?_ | refine Zaq ?_ | (refine Zac rfl (fun hb => ?_) (fun hb => ?_) <;> (repeat (first | replace hb := Zam hb | replace hb := Zan hb | replace hb := Zbr hb | replace hb := Zbs hb)) <;> (try (exfalso; fail))))))
       all_goals (try (exfalso; simp_all; done))
       exact ⟨i + 1, ⟨by omega, by rw [List.take_succ_eq_append_getElem hlt, List.take_succ_eq_append_getElem (by omega), ht, he]⟩, by omega, Zae (by repeat (first | exact Zai | refine Zad rfl ?_)) (List.Sublist.refl _)⟩
     · (repeat' (first | refine Za8 ?_ | refine Za1 ?_ | refine Za6 ?_ | (apply Za9; (first | exact Za3 rfl | (apply Za7; exact Zab (k := 1) rfl rfl rfl rfl) | (apply Zat; exact Zaf rfl rfl rfl) | (apply Zah; exact Zau rfl rfl) | (apply Zax; exact Zb3 rfl rfl)); exact rfl) | refine Zaa ?_ | refine Zag ?_ | (refine Zac rfl (fun hb => ?_) (fun hb => ?_) <;> (repeat (first | replace hb := Zam hb | replace hb := Zan hb)) <;> (try (exfalso; omega)))))
       (refine Zbx 11 rfl ?_)
       all_goals ((apply Za2 0 rfl (by decide +kernel) rfl (by repeat (first | exact Za5)) Za0; (first | (apply Zat; first | exact Zaf rfl rfl rfl)); exact rfl))
       all_goals ((apply Zb0 1 rfl (by decide +kernel) rfl (by decide +kernel) (by repeat (exact Za5)) Za0; ((apply Za7; exact Zab (k := 1) rfl rfl rfl rfl)); exact rfl))
       all_goals ((apply Za2 2 rfl (by decide +kernel) rfl (by repeat (first | exact Za5)) Za0; (first | exact Za3 rfl); exact rfl))
       all_goals ((apply Za2 3 rfl (by decide +kernel) rfl (by repeat (first | exact Za5)) Za0; (first | (apply Zak; first | exact Zar rfl rfl rfl)); exact rfl))
       all_goals ((apply Zb0 4 rfl (by decide +kernel) rfl (by decide +kernel) (by repeat (exact Za5)) Za0; ((apply Za7; exact Zb2 rfl rfl)); exact rfl))
       all_goals ((apply Za2 5 rfl (by decide +kernel) rfl (by repeat (first | exact Za5)) Za0; (first | (apply Zat; first | exact Zaf rfl rfl rfl)); exact rfl))
       all_goals ((apply Zb0 6 rfl (by decide +kernel) rfl (by decide +kernel) (by repeat (exact Za5)) Za0; ((apply Za7; exact Zab (k := 0) rfl rfl rfl rfl)); exact rfl))
       all_goals ((apply Za2 7 rfl (by decide +kernel) rfl (by repeat (first | exact Za5)) Za0; (first | exact Za3 rfl); exact rfl))
       all_goals ((apply Za2 8 rfl (by decide +kernel) rfl (by repeat (first | exact Za5)) Za0; (first | (apply Zak; first | exact Zar rfl rfl rfl)); exact rfl))
       all_goals ((apply Zb0 9 rfl (by decide +kernel) rfl (by decide +kernel) (by repeat (exact Za5)) Za0; ((apply Za7; exact Zb2 rfl rfl)); exact rfl))
       all_goals ((apply Za2 10 rfl (by decide +kernel) rfl (by repeat (first | exact Za5)) Za0; (first | (apply Zah; first | exact WT_aneD inferInstance rfl rfl)); exact rfl))
       all_goals (refine Zb9 (by decide +kernel) ?_)
       all_goals ((repeat' (first | refine Za8 ?_ | refine Za1 ?_ | refine Za6 ?_ | (apply Za9; (first | exact Za3 rfl | exact Za4 rfl | (apply Zah; exact Zbf rfl rfl)); exact rfl) | refine Zag ?_ | refine Zaq ?_ | (refine Zac rfl (fun hb => ?_) (fun hb => ?_) <;> (repeat (first | replace hb := Zam hb | replace hb := Zan hb | replace hb := Zbr hb | replace hb := Zbs hb)) <;> (try (exfalso; fail))))))
       all_goals (try (exfalso; simp_all; done))
       refine ⟨.inr rfl, ret1 rfl (.tmp rfl) (List.nil_sublist _) ⟨congrArg exB ?_, rfl⟩⟩
       exact (decide_eq_false fun e => he (by subst e; rfl)).symm
   · have hk9 : i = x.crits.length := by omega
     subst hk9
     rw [List.take_length, h3, List.take_length] at ht
     (repeat' (first | refine Za8 ?_ | refine Za1 ?_ | refine Za6 ?_ | (apply Za9; (first | exact Za3 rfl | exact Za4 rfl | (apply Za7; exact Zab (k := 1) rfl rfl rfl rfl) | (apply Zat; exact Zaf rfl rfl rfl) | (apply Zah; exact Zau rfl rfl) | (apply Zax; exact Zb3 rfl rfl)); exact rfl) | refine Zaa ?_ | refine Zbk ?_ | (refine Zac rfl (fun hb => ?_) (fun hb => ?_) <;> (repeat (first | replace hb := Zam hb | replace hb := Zan hb)) <;> (try (exfalso; omega)))))
     all_goals (try (exfalso; omega))
     refine Zbv (fun i : Nat => ([(2, ex (.pointer (some ⟨b1, 0, none⟩))), (3, ex (.pointer (some ⟨b2, 0, none⟩))), (6, exI .i64 (i : Int))], [row b2 28 9 (rulesV j y), row b1 28 9 (rulesV k x)])) (fun i => i ≤ x.rounds.length ∧ x.rounds.take i = y.rounds.take i) (fun i => x.rounds.length - i) 0 ?_ ⟨Nat.zero_le _, rfl⟩ fun i hi => ?_
     · exact Zae (by repeat (first | exact Zai | refine Zad rfl ?_)) (List.Sublist.refl _)
     obtain ⟨hi, htr⟩ := hi
     by_cases hlt : i < x.rounds.length
     · by_cases he : x.rounds[i] = y.rounds[i]'(by omega)
       · (repeat' (first | refine Za8 ?_ | refine Za1 ?_ | refine Za6 ?_ | (apply Za9; (first | exact Za3 rfl | (apply Za7; exact Zab (k := 1) rfl rfl rfl rfl) | (apply Zat; exact Zaf rfl rfl rfl) | (apply Zah; exact Zau rfl rfl) | (apply Zax; exact Zb3 rfl rfl)); exact rfl) | refine Zaa ?_ | refine Zag ?_ | (refine Zac rfl (fun hb => ?_) (fun hb => ?_) <;> (repeat (first | replace hb := Zam hb | replace hb := Zan hb)) <;> (try (exfalso; omega)))))
         (refine Zbx 12 rfl ?_)
         all_goals ((apply Za2 0 rfl (by decide +kernel) rfl (by repeat (first | exact Za5)) Za0; (first | (apply Zat; first | exact Zaf rfl rfl rfl)); exact rfl))
         all_goals ((apply Zb0 1 rfl (by decide +kernel) rfl (by decide +kernel) (by repeat (exact Za5)) Za0; ((apply Za7; exact Zab (k := 1) rfl rfl rfl rfl)); exact rfl))
         all_goals ((apply Za2 2 rfl (by decide +kernel) rfl (by repeat (first | exact Za5)) Za0; (first | exact Za3 rfl); exact rfl))
         all_goals ((apply Za2 3 rfl (by decide +kernel) rfl (by repeat (first | exact Za5)) Za0; (first | (apply Zak; first | exact Zar rfl rfl rfl)); exact rfl))
         all_goals ((apply Zb0 4 rfl (by decide +kernel) rfl (by decide +kernel) (by repeat (exact Za5)) Za0; ((apply Za7; exact Zb2 rfl rfl)); exact rfl))
         all_goals ((apply Za2 5 rfl (by decide +kernel) rfl (by repeat (first | exact Za5)) Za0; (first | (apply Zat; first | exact Zaf rfl rfl rfl)); exact rfl))
         all_goals ((apply Zb0 6 rfl (by decide +kernel) rfl (by decide +kernel) (by repeat (exact Za5)) Za0; ((apply Za7; exact Zab (k := 0) rfl rfl rfl rfl)); exact rfl))
         all_goals ((apply Za2 7 rfl (by decide +kernel) rfl (by repeat (first | exact Za5)) Za0; (first | exact Za3 rfl); exact rfl))
         all_goals ((apply Za2 8 rfl (by decide +kernel) rfl (by repeat (first | exact Za5)) Za0; (first | (apply Zak; first | exact Zar rfl rfl rfl)); exact rfl))
         all_goals ((apply Zb0 9 rfl (by decide +kernel) rfl (by decide +kernel) (by repeat (exact Za5)) Za0; ((apply Za7; exact Zb2 rfl rfl)); exact rfl))
         all_goals ((apply Zap 10; exact (by decide +kernel); exact rfl; exact Za0; exact (fun _ _ h => h); (apply Zao; (refine Zaw Tryz.func72 rfl (sameRound_any _ _ _ _) rfl ?_; rintro _ _ ⟨rfl, rfl⟩))))
         all_goals ((apply Za2 11 rfl (by decide +kernel) rfl (by repeat (first | exact Za5)) Za0; (first | (apply g_un; first | exact Zbg rfl)); exact rfl))
         all_goals (refine Zb9 (by decide +kernel) ?_)
         all_goals ((repeat' (first | refine Za8 ?_ | refine Za1 ?_ | refine Za6 ?_ | (apply Za9; (first | exact Za3 rfl | exact Za4 rfl | (apply Zah; exact Zbf rfl rfl)); exact rfl) | refine Zag ?_ | refine Zaq ?_ | (refine Zac rfl (fun hb => ?_) (fun hb => ?_) <;> (repeat (first | replace hb := Zam hb | replace hb := Zan hb | replace hb := Zbr hb | replace hb := Zbs hb)) <;> (try (exfalso; fail))))))
         all_goals (try (exfalso; simp_all; done))
         exact ⟨i + 1, ⟨by omega, by rw [List.take_succ_eq_append_getElem hlt, List.take_succ_eq_append_getElem (by omega), htr, he]⟩, by omega, Zae (by repeat (first | exact Zai | refine Zad rfl ?_)) (List.Sublist.refl _)⟩
       · (repeat' (first | refine Za8 ?_ | refine Za1 ?_ | refine Za6 ?_ | (apply Za9; (first | exact Za3 rfl | (apply Za7; exact Zab (k := 1) rfl rfl rfl rfl) | (apply Zat; exact Zaf rfl rfl rfl) | (apply Zah; exact Zau rfl rfl) | (apply Zax; exact Zb3 rfl rfl)); exact rfl) | refine Zaa ?_ | refine Zag ?_ | (refine Zac rfl (fun hb => ?_) (fun hb => ?_) <;> (repeat (first | replace hb := Zam hb | replace hb := Zan hb)) <;> (try (exfalso; omega)))))
         (refine Zbx 12 rfl ?_)
         all_goals ((apply Za2 0 rfl (by decide +kernel) rfl (by repeat (first | exact Za5)) Za0; (first | (apply Zat; first | exact Zaf rfl rfl rfl)); exact rfl))
         all_goals ((apply Zb0 1 rfl (by decide +kernel) rfl (by decide +kernel) (by repeat (exact Za5)) Za0; ((apply Za7; exact Zab (k := 1) rfl rfl rfl rfl)); exact rfl))
         all_goals ((apply Za2 2 rfl (by decide +kernel) rfl (by repeat (first | exact Za5)) Za0; (first | exact Za3 rfl); exact rfl))
         all_goals ((apply Za2 3 rfl (by decide +kernel) rfl (by repeat (first | exact Za5)) Za0; (first | (apply Zak; first | exact Zar rfl rfl rfl)); exact rfl))
         all_goals ((apply Zb0 4 rfl (by decide +kernel) rfl (by decide +kernel) (by repeat (exact Za5)) Za0; ((apply Za7; exact Zb2 rfl rfl)); exact rfl))
         all_goals ((apply Za2 5 rfl (by decide +kernel) rfl (by repeat (first | exact Za5)) Za0; (first | (apply Zat; first | exact Zaf rfl rfl rfl)); exact rfl))
         all_goals ((apply Zb0 6 rfl (by decide +kernel) rfl (by decide +kernel) (by repeat (exact Za5)) Za0; ((apply Za7; exact Zab (k := 0) rfl rfl rfl rfl)); exact rfl))
         all_goals ((apply Za2 7 rfl (by decide +kernel) rfl (by repeat (first | exact Za5)) Za0; (first | exact Za3 rfl); exact rfl))
         all_goals ((apply Za2 8 rfl (by decide +kernel) rfl (by repeat (first | exact Za5)) Za0; (first | (apply Zak; first | exact Zar rfl rfl rfl)); exact rfl))
         all_goals ((apply Zb0 9 rfl (by decide +kernel) rfl (by decide +kernel) (by repeat (exact Za5)) Za0; ((apply Za7; exact Zb2 rfl rfl)); exact rfl))
         all_goals ((apply Zap 10; exact (by decide +kernel); exact rfl; exact Za0; exact (fun _ _ h => h); (apply Zao; (refine Zaw Tryz.func72 rfl (sameRound_any _ _ _ _) rfl ?_; rintro _ _ ⟨rfl, rfl⟩))))
         all_goals ((apply Za2 11 rfl (by decide +kernel) rfl (by repeat (first | exact Za5)) Za0; (first | (apply g_un; first | exact Zbg rfl)); exact rfl))
         all_goals (refine Zb9 (by decide +kernel) ?_)
         all_goals ((repeat' (first | refine Za8 ?_ | refine Za1 ?_ | refine Za6 ?_ | (apply Za9; (first | exact Za3 rfl | exact Za4 rfl | (apply Zah; exact Zbf rfl rfl)); exact rfl) | refine Zag ?_ | refine Zaq ?_ | (refine Zac rfl (fun hb => ?_) (fun hb => ?_) <;> (repeat (first | replace hb := Zam hb | replace hb := Zan hb | replace hb := Zbr hb | replace hb := Zbs hb)) <;> (try (exfalso; fail))))))
         all_goals (try (exfalso; simp_all; done))
         refine ⟨.inr rfl, ret1 rfl (.tmp rfl) (List.nil_sublist _) ⟨congrArg exB ?_, rfl⟩⟩
         exact (decide_eq_false fun e => he (by subst e; rfl)).symm
     · have hk9 : i = x.rounds.length := by omega
       subst hk9
       rw [List.take_length, h4, List.take_length] at htr
       (repeat' (first | refine Za8 ?_ | refine Za1 ?_ | refine Za6 ?_ | (apply Za9; (first | exact Za3 rfl | exact Za4 rfl | exact Zas (b := true) rfl (fun _ => rfl) (fun e => by cases e) | exact Zas (b := false) rfl (fun e => by cases e) (fun _ => rfl) | (apply Za7; first | exact Zab (k := 0) rfl rfl rfl rfl | exact Zab (k := 1) rfl rfl rfl rfl) | (apply Zat; exact Zaf rfl rfl rfl) | (apply Zah; exact Zau rfl rfl) | (apply Zax; exact Zb3 rfl rfl)); exact rfl) | (refine Zbq rfl rfl rfl rfl rfl ?_) | (apply Zbt; exact rfl; exact rfl; exact rfl; (first | (apply Za7; first | exact Zab (k := 0) rfl rfl rfl rfl | exact Zab (k := 1) rfl rfl rfl rfl) | (apply Zat; exact Zaf rfl rfl rfl)); exact rfl) | refine Zaq ?_ | refine Zbk ?_ | (apply Zaj; exact rfl; (apply Zao; (refine Zaw Tryz.func73 rfl (sameInts_any _ _) rfl ?_; rintro _ _ ⟨rfl, rfl⟩))) | (apply Zc8; exact rfl; exact rfl; exact rfl; exact rfl; (apply Zao; (refine Zaw Tryz.func73 rfl (sameInts_any _ _) rfl ?_; rintro _ _ ⟨rfl, rfl⟩))) | (refine Zbm rfl rfl (fun hb => ?_) (fun hb => ?_) <;> (repeat (first | replace hb := Zam hb | replace hb := Zan hb)) <;> (try (exfalso; fail))) | (refine Zac rfl (fun hb => ?_) (fun hb => ?_) <;> (repeat (first | replace hb := Zam hb | replace hb := Zan hb)) <;> (try (exfalso; omega)))))
       all_goals (refine ⟨.inr rfl, ret1 rfl (.tmp rfl) (List.nil_sublist _) ⟨congrArg exB ?_, rfl⟩⟩)
       all_goals (rw [Bool.eq_iff_iff]; simp only [decide_eq_true_eq, rules_iff, Bool.false_eq_true, false_iff, *])
       all_goals simp
 · have hn : x ≠ y := fun e => h0 (by subst e; exact ⟨rfl, rfl, rfl, rfl, rfl, rfl, rfl⟩)
   rw [decide_eq_false hn]
   (repeat' (first | refine Za8 ?_ | refine Za1 ?_ | refine Za6 ?_ | (apply Za9; (first | exact Za3 rfl | exact Za4 rfl | exact Zas (b := true) rfl (fun _ => rfl) (fun e => by cases e) | exact Zas (b := false) rfl (fun e => by cases e) (fun _ => rfl) | (apply Za7; first | exact Zab (k := 0) rfl rfl rfl rfl | exact Zab (k := 1) rfl rfl rfl rfl) | (apply Zat; exact Zaf rfl rfl rfl) | (apply Zah; exact WT_tne rfl rfl)); exact rfl) | (refine Zbq rfl rfl rfl rfl rfl ?_) | (apply Zbt; exact rfl; exact rfl; exact rfl; (first | (apply Za7; first | exact Zab (k := 0) rfl rfl rfl rfl | exact Zab (k := 1) rfl rfl rfl rfl) | (apply Zat; exact Zaf rfl rfl rfl) | (apply Zah; exact Zc3 rfl rfl) | (apply Zax; exact Zb3 rfl rfl) | (apply g_un; exact Zbg rfl)); exact rfl) | refine Zaa ?_ | refine Zag ?_ | refine Zaq ?_ | refine Zb4 rfl ?_ | (apply Zaj; exact rfl; (apply Zc9; refine Zbz rfl ?_; intro _)) | (apply Zc8; exact rfl; exact rfl; exact rfl; exact rfl; (apply Zao; first | (refine Zaw Tryz.func70 rfl (sameItems_any _ _) rfl ?_; rintro _ _ ⟨rfl, rfl⟩) | (refine Zaw Tryz.func71 rfl (sameTies_any _ _) rfl ?_; rintro _ _ ⟨rfl, rfl⟩))) | (refine Zbm rfl rfl (fun hb => ?_) (fun hb => ?_) <;> (repeat (first | replace hb := Zam hb | replace hb := Zan hb | replace hb := Zbr hb | replace hb := Zbs hb)) <;> (try (exfalso; fail))) | (refine Zac rfl (fun hb => ?_) (fun hb => ?_) <;> (repeat (first | replace hb := Zam hb | replace hb := Zan hb | replace hb := Zbr hb | replace hb := Zbs hb)) <;> (try (exfalso; fail)))))
   all_goals first | exact ⟨.inr rfl, ret1 rfl (.tmp rfl) (List.nil_sublist _) ⟨rfl, rfl⟩⟩ | (exfalso; refine h0 ⟨?_, ?_, ?_, ?_, ?_, ?_, ?_⟩ <;> first | assumption | omega)
end Go.Proofs.YthldagplhklbnaaGreatDoor
namespace Go.Proofs.YthldagplhklbnaaGreatDoor
open Go Go.RowKit Go.Kx Go.Fr Go.ChangeShapes Go.WideShapes
theorem rdT : Reads Tryz.prog 9 eStr := reads_text Tryz.underlying9
theorem rdI : Reads Tryz.prog 3 eI := reads_i Tryz.underlying3
theorem rdB : Reads Tryz.prog 4 eBool := reads_bool Tryz.underlying4
theorem rdCrit (K : Nat) : ReadsK Tryz.prog 69 K (eCrit) := by
 intro H enc w fuel cs x hK h hw
 obtain ⟨a0, h0⟩ := Zbu (K := K) Tryz.underlying69 h hw (by omega) 0 _ rfl (fits_str) (rdT.at _) 0 1 rfl (by kernel_rfl)
 obtain ⟨a1, h1⟩ := Zbu (K := K) Tryz.underlying69 h hw (by omega) 1 _ rfl (fits_int) (rdI.at _) 1 1 rfl (by kernel_rfl)
 obtain ⟨a2, h2⟩ := Zbu (K := K) Tryz.underlying69 h hw (by omega) 2 _ rfl (fits_int) (rdI.at _) 2 1 rfl (by kernel_rfl)
 obtain ⟨a3, h3⟩ := Zbu (K := K) Tryz.underlying69 h hw (by omega) 3 _ rfl (fits_int) (rdI.at _) 3 1 rfl (by kernel_rfl)
 obtain ⟨a4, h4⟩ := Zbu (K := K) Tryz.underlying69 h hw (by omega) 4 _ rfl (fits_int) (rdI.at _) 4 1 rfl (by kernel_rfl)
 obtain ⟨a5, h5⟩ := Zbu (K := K) Tryz.underlying69 h hw (by omega) 5 _ rfl (fits_int) (rdI.at _) 5 1 rfl (by kernel_rfl)
 obtain ⟨a6, h6⟩ := Zbu (K := K) Tryz.underlying69 h hw (by omega) 6 _ rfl (fits_bool') (rdB.at _) 6 1 rfl (by kernel_rfl)
 have hl := trod_len Tryz.underlying69 h (n := 7) (by kernel_rfl)
 exact ⟨⟨a0, a1, a2, a3, a4, a5, a6⟩, hl, (CellsR.parts h0 (CellsR.parts h1 (CellsR.parts h2 (CellsR.parts h3 (CellsR.parts h4 (CellsR.parts h5 (CellsR.parts h6 (CellsR.parts0 hl) rfl) rfl) rfl) rfl) rfl) rfl) rfl)⟩
theorem rdCrits (K : Nat) : ReadsK Tryz.prog 22 K (eSl (eCrit)) := readsK_slice Tryz.underlying22 (by kernel_rfl) (Nat.zero_lt_succ _) (by kernel_rfl) (rdCrit K)
theorem rdItem (K : Nat) : ReadsK Tryz.prog 86 K (eItem) := by
 intro H enc w fuel cs x hK h hw
 obtain ⟨a0, h0⟩ := Zbu (K := K) Tryz.underlying86 h hw (by omega) 0 _ rfl (fits_str) (rdT.at _) 0 1 rfl (by kernel_rfl)
 obtain ⟨a1, h1⟩ := Zbu (K := K) Tryz.underlying86 h hw (by omega) 1 _ rfl (fits_int) (rdI.at _) 1 1 rfl (by kernel_rfl)
 obtain ⟨a2, h2⟩ := Zbu (K := K) Tryz.underlying86 h hw (by omega) 2 _ rfl (fits_int) (rdI.at _) 2 1 rfl (by kernel_rfl)
 have hl := trod_len Tryz.underlying86 h (n := 3) (by kernel_rfl)
 exact ⟨⟨a0, a1, a2⟩, hl, (CellsR.parts h0 (CellsR.parts h1 (CellsR.parts h2 (CellsR.parts0 hl) rfl) rfl) rfl)⟩
theorem rdItems (K : Nat) : ReadsK Tryz.prog 23 K (eSl (eItem)) := readsK_slice Tryz.underlying23 (by kernel_rfl) (Nat.zero_lt_succ _) (by kernel_rfl) (rdItem K)
theorem rdKey (K : Nat) : ReadsK Tryz.prog 42 K (eKey) := by
 intro H enc w fuel cs x hK h hw
 obtain ⟨a0, h0⟩ := Zbu (K := K) Tryz.underlying42 h hw (by omega) 0 _ rfl (fits_int) (rdI.at _) 0 1 rfl (by kernel_rfl)
 obtain ⟨a1, h1⟩ := Zbu (K := K) Tryz.underlying42 h hw (by omega) 1 _ rfl (fits_str) (rdT.at _) 1 1 rfl (by kernel_rfl)
 obtain ⟨a2, h2⟩ := Zbu (K := K) Tryz.underlying42 h hw (by omega) 2 _ rfl (fits_int) (rdI.at _) 2 1 rfl (by kernel_rfl)
 have hl := trod_len Tryz.underlying42 h (n := 3) (by kernel_rfl)
 exact ⟨⟨a0, a1, a2⟩, hl, (CellsR.parts h0 (CellsR.parts h1 (CellsR.parts h2 (CellsR.parts0 hl) rfl) rfl) rfl)⟩
theorem rdKeys (K : Nat) : ReadsK Tryz.prog 33 K (eSl (eKey)) := readsK_slice Tryz.underlying33 (by kernel_rfl) (Nat.zero_lt_succ _) (by kernel_rfl) (rdKey K)
theorem rdTie (K : Nat) : ReadsK Tryz.prog 40 K (eTie) := by
 intro H enc w fuel cs x hK h hw
 obtain ⟨a0, h0⟩ := Zbu (K := K) Tryz.underlying40 h hw (by omega) 0 _ rfl (fits_str) (rdT.at _) 0 1 rfl (by kernel_rfl)
 obtain ⟨a1, h1⟩ := Zbu (K := K) Tryz.underlying40 h hw (by omega) 1 _ rfl (fits_isl) (rdKeys K) 1 1 rfl (by kernel_rfl)
 have hl := trod_len Tryz.underlying40 h (n := 2) (by kernel_rfl)
 exact ⟨⟨a0, a1⟩, hl, (CellsR.parts h0 (CellsR.parts h1 (CellsR.parts0 hl) rfl) rfl)⟩
theorem rdTies (K : Nat) : ReadsK Tryz.prog 24 K (eSl (eTie)) := readsK_slice Tryz.underlying24 (by kernel_rfl) (Nat.zero_lt_succ _) (by kernel_rfl) (rdTie K)
theorem rdInts (K : Nat) : ReadsK Tryz.prog 26 K (eSl eI) := readsK_slice Tryz.underlying26 (by kernel_rfl) (Nat.zero_lt_succ _) (by kernel_rfl) (rdI.at K)
theorem rdExpr : ∀ K : Nat, ReadsK Tryz.prog 46 K (eEx K)
 | 0 => .zero
 | K + 1 => by
   intro H enc w fuel cs x hK h hw
   have hs : ReadsK Tryz.prog 44 K (eSl (eEx K)) := readsK_slice Tryz.underlying44 (by kernel_rfl) (Nat.zero_lt_succ _) (by kernel_rfl) (rdExpr K)
   obtain ⟨a0, h0⟩ := Zbu (K := K) Tryz.underlying46 h hw (by omega) 0 _ rfl fits_int (rdI.at _) 0 1 rfl (by kernel_rfl)
   obtain ⟨a1, h1⟩ := Zbu (K := K) Tryz.underlying46 h hw (by omega) 1 _ rfl fits_str (rdT.at _) 1 1 rfl (by kernel_rfl)
   obtain ⟨a2, h2⟩ := Zbu (K := K) Tryz.underlying46 h hw (by omega) 2 _ rfl fits_int (rdI.at _) 2 1 rfl (by kernel_rfl)
   obtain ⟨a3, h3⟩ := Zbu (K := K) Tryz.underlying46 h hw (by omega) 3 _ rfl fits_int (rdI.at _) 3 1 rfl (by kernel_rfl)
   obtain ⟨a4, h4⟩ := Zbu (K := K) Tryz.underlying46 h hw (by omega) 4 _ rfl fits_isl hs 4 1 rfl (by kernel_rfl)
   have hl := trod_len Tryz.underlying46 h (n := 5) (by kernel_rfl)
   exact ⟨.mk a0 a1 a2 a3 a4, hl, (CellsR.parts h0 (CellsR.parts h1 (CellsR.parts h2 (CellsR.parts h3 (CellsR.parts h4 (CellsR.parts0 hl) rfl) rfl) rfl) rfl) rfl)⟩
theorem rdRound (K : Nat) : ReadsK Tryz.prog 48 K (eRound K) := by
 intro H enc w fuel cs x hK h hw
 obtain ⟨a0, h0⟩ := Zbu (K := K) Tryz.underlying48 h hw (by omega) 0 _ rfl (fits_str) (rdT.at _) 0 1 rfl (by kernel_rfl)
 obtain ⟨a1, h1⟩ := Zbu (K := K) Tryz.underlying48 h hw (by omega) 1 _ rfl (fits_int) (rdI.at _) 1 1 rfl (by kernel_rfl)
 obtain ⟨a2, h2⟩ := Zbu (K := K) Tryz.underlying48 h hw (by omega) 2 _ rfl (fits_int) (rdI.at _) 2 1 rfl (by kernel_rfl)
 obtain ⟨a3, h3⟩ := Zbu (K := K) Tryz.underlying48 h hw (by omega) 3 _ rfl (fits_int) (rdI.at _) 3 1 rfl (by kernel_rfl)
 obtain ⟨a4, h4⟩ := Zbu (K := K) Tryz.underlying48 h hw (by omega) 4 _ rfl (fits_bool') (rdB.at _) 4 1 rfl (by kernel_rfl)
 obtain ⟨a5, h5⟩ := Zbu (K := K) Tryz.underlying48 h hw (by omega) 5 _ rfl (fits_bool') (rdB.at _) 5 1 rfl (by kernel_rfl)
 obtain ⟨a6, h6⟩ := Zbu (K := K) Tryz.underlying48 h hw (by omega) 6 _ rfl (fits_encS) (rdExpr K) 6 5 rfl (by kernel_rfl)
 obtain ⟨a7, h7⟩ := Zbu (K := K) Tryz.underlying48 h hw (by omega) 7 _ rfl (fits_str) (rdT.at _) 11 1 rfl (by kernel_rfl)
 obtain ⟨a8, h8⟩ := Zbu (K := K) Tryz.underlying48 h hw (by omega) 8 _ rfl (fits_int) (rdI.at _) 12 1 rfl (by kernel_rfl)
 have hl := trod_len Tryz.underlying48 h (n := 13) (by kernel_rfl)
 exact ⟨⟨a0, a1, a2, a3, a4, a5, a6, a7, a8⟩, hl, (CellsR.parts h0 (CellsR.parts h1 (CellsR.parts h2 (CellsR.parts h3 (CellsR.parts h4 (CellsR.parts h5 (CellsR.parts h6 (CellsR.parts h7 (CellsR.parts h8 (CellsR.parts0 hl) rfl) rfl) rfl) rfl) rfl) rfl) rfl) rfl) rfl)⟩
theorem rdRounds (K : Nat) : ReadsK Tryz.prog 25 K (eSl (eRound K)) := readsK_slice Tryz.underlying25 (by kernel_rfl) (Nat.zero_lt_succ _) (by kernel_rfl) (rdRound K)
theorem rdRules (K : Nat) : ReadsK Tryz.prog 28 K (encS (rulesV K) 9 200) := by
 intro H enc w fuel cs x hK h hw
 obtain ⟨a0, h0⟩ := Zbu (K := K) Tryz.underlying28 h hw (by omega) 0 _ rfl (fits_str) (rdT.at _) 0 1 rfl (by kernel_rfl)
 obtain ⟨a1, h1⟩ := Zbu (K := K) Tryz.underlying28 h hw (by omega) 1 _ rfl (fits_isl) (rdCrits K) 1 1 rfl (by kernel_rfl)
 obtain ⟨a2, h2⟩ := Zbu (K := K) Tryz.underlying28 h hw (by omega) 2 _ rfl (fits_isl) (rdItems K) 2 1 rfl (by kernel_rfl)
 obtain ⟨a3, h3⟩ := Zbu (K := K) Tryz.underlying28 h hw (by omega) 3 _ rfl (fits_isl) (rdItems K) 3 1 rfl (by kernel_rfl)
 obtain ⟨a4, h4⟩ := Zbu (K := K) Tryz.underlying28 h hw (by omega) 4 _ rfl (fits_isl) (rdTies K) 4 1 rfl (by kernel_rfl)
 obtain ⟨a5, h5⟩ := Zbu (K := K) Tryz.underlying28 h hw (by omega) 5 _ rfl (fits_isl) (rdRounds K) 5 1 rfl (by kernel_rfl)
 obtain ⟨a6, h6⟩ := Zbu (K := K) Tryz.underlying28 h hw (by omega) 6 _ rfl (fits_isl) (rdInts K) 6 1 rfl (by kernel_rfl)
 obtain ⟨a7, h7⟩ := Zbu (K := K) Tryz.underlying28 h hw (by omega) 7 _ rfl (fits_isl) (rdInts K) 7 1 rfl (by kernel_rfl)
 obtain ⟨a8, h8⟩ := Zbu (K := K) Tryz.underlying28 h hw (by omega) 8 _ rfl (fits_int) (rdI.at _) 8 1 rfl (by kernel_rfl)
 have hl := trod_len Tryz.underlying28 h (n := 9) (by kernel_rfl)
 exact ⟨⟨a0, a1, a2, a3, a4, a5, a6, a7, a8⟩, hl, (CellsR.parts h0 (CellsR.parts h1 (CellsR.parts h2 (CellsR.parts h3 (CellsR.parts h4 (CellsR.parts h5 (CellsR.parts h6 (CellsR.parts h7 (CellsR.parts h8 (CellsR.parts0 hl) rfl) rfl) rfl) rfl) rfl) rfl) rfl) rfl) rfl)⟩
instance {k : Nat} : LenS (rulesV k) 9 := ⟨fun _ => rfl⟩
theorem arg_rules {W : World} {v : Value} (h : ArgIn Tryz.prog W 28 v) : ∃ (K : Nat) (r : RulesD), (rul K r).rel (fun _ => True) W v := ArgIn.agg (gs := rulesV) h Tryz.underlying28 rdRules fun _ => fits_encS
end Go.Proofs.YthldagplhklbnaaGreatDoor
namespace Go.Proofs.YthldagplhklbnaaGreatDoor
open Go Go.RowKit Go.Kx Go.Fr Go.ChangeShapes Go.WideShapes Go.ChangeAt
theorem Tryz.own : ownKnob Tryz.prog.godebug = none := by kernel_rfl
theorem Tryz.laidOut : laidOutB Tryz.prog = true := by kernel_rfl
theorem spG : Tryz.prog.globalNamed "strings.asciiSpace" = some tabG := by kernel_rfl
theorem spT : (Tryz.prog.globals[tabG]?).map (·.type) = some 153 := by kernel_rfl
def spZ : List Int := [0, 0, 0, 0, 0, 0, 0, 0, 0, 1, 1, 1, 1, 1, 0, 0, 0, 0, 0, 0, 0, 0, 0, 0, 0, 0, 0, 0, 0, 0, 0, 0, 1, 0, 0, 0, 0, 0, 0, 0, 0, 0, 0, 0, 0, 0, 0, 0, 0, 0, 0, 0, 0, 0, 0, 0, 0, 0, 0, 0, 0, 0, 0, 0, 0, 0, 0, 0, 0, 0, 0, 0, 0, 0, 0, 0, 0, 0, 0, 0, 0, 0, 0, 0, 0, 0, 0, 0, 0, 0, 0, 0, 0, 0, 0, 0, 0, 0, 0, 0, 0, 0, 0, 0, 0, 0, 0, 0, 0, 0, 0, 0, 0, 0, 0, 0, 0, 0, 0, 0, 0, 0, 0, 0, 0, 0, 0, 0, 0, 0, 0, 0, 0, 0, 0, 0, 0, 0, 0, 0, 0, 0, 0, 0, 0, 0, 0, 0, 0, 0, 0, 0, 0, 0, 0, 0, 0, 0, 0, 0, 0, 0, 0, 0, 0, 0, 0, 0, 0, 0, 0, 0, 0, 0, 0, 0, 0, 0, 0, 0, 0, 0, 0, 0, 0, 0, 0, 0, 0, 0, 0, 0, 0, 0, 0, 0, 0, 0, 0, 0, 0, 0, 0, 0, 0, 0, 0, 0, 0, 0, 0, 0, 0, 0, 0, 0, 0, 0, 0, 0, 0, 0, 0, 0, 0, 0, 0, 0, 0, 0, 0, 0, 0, 0, 0, 0, 0, 0, 0, 0, 0, 0, 0, 0, 0, 0, 0, 0, 0, 0, 0, 0, 0, 0, 0, 0]
theorem sp_data : (Rows.laid_strings_asciiSpace : DataW Unit) = Lib.tabData .u8 spZ := by kernel_rfl
theorem sp_at : ∀ c : Nat, c < 256 → spZ.getD c 0 = (if Lib.isSp (UInt8.ofNat c) then 1 else 0) := by decide +kernel
theorem laidMet_tail {P : Program} {W : World} {x : String × DataW Unit} {rest : List (String × DataW Unit)} (h : laidMet P (x :: rest) W) : laidMet P rest W := by
 obtain ⟨n, d⟩ := x
 obtain ⟨ps, ⟨g, t, cs, fuel, p, q, _, _, _, _, h5, rfl⟩, hn, hc⟩ := h
 exact ⟨q, h5, (List.nodup_append.1 hn).2.1, fun b off hm => hc b off (List.mem_append_right _ hm)⟩
theorem tab_laid {W : World} (h : laidMetH Tryz.prog [("unicode.White_Space", Rows.laid_unicode_White_Space), ("strings.asciiSpace", Rows.laid_strings_asciiSpace)] W) : Tab.rel (fun _ => True) W := by
 have h1 : laidMet Tryz.prog [("unicode.White_Space", Rows.laid_unicode_White_Space), ("strings.asciiSpace", Rows.laid_strings_asciiSpace)] W := h
 have h2 := laidMet_tail h1
 rw [sp_data] at h2
 have h3 : Lib.TabIs Tryz.prog W "strings.asciiSpace" .u8 spZ := Lib.tabIs_of_head (rest := []) spG spT Tryz.underlying153 Tryz.underlying5 (by kernel_rfl) (by kernel_rfl) h2
 have h4 : ∀ c : Nat, c < 256 → W.cell? ⟨tabG, c, none⟩ = some (.int .u8 (if Lib.isSp (UInt8.ofNat c) then 1 else 0)) := fun c hc => by
   rw [← sp_at c hc]; exact h3.cell spG c (by rw [show spZ.length = 256 by decide +kernel]; exact hc)
 exact ⟨trivial, (cell_lt (h4 0 (by decide))).1, h4⟩
noncomputable def laidW (os : Os) : World :=
 let w0 := World.holding Tryz.prog os ⟨#[], #[], []⟩
 let h1 := w0.heap.modify (Tryz.lays157_ren.g 0) fun
   | .cells _ t fr => .cells #[.int .u8 0, .int .u8 0, .int .u8 0, .int .u8 0, .int .u8 0, .int .u8 0, .int .u8 0, .int .u8 0, .int .u8 0, .int .u8 1, .int .u8 1, .int .u8 1, .int .u8 1, .int .u8 1, .int .u8 0, .int .u8 0, .int .u8 0, .int .u8 0, .int .u8 0, .int .u8 0, .int .u8 0, .int .u8 0, .int .u8 0, .int .u8 0, .int .u8 0, .int .u8 0, .int .u8 0, .int .u8 0, .int .u8 0, .int .u8 0, .int .u8 0, .int .u8 0, .int .u8 1, .int .u8 0, .int .u8 0, .int .u8 0, .int .u8 0, .int .u8 0, .int .u8 0, .int .u8 0, .int .u8 0, .int .u8 0, .int .u8 0, .int .u8 0, .int .u8 0, .int .u8 0, .int .u8 0, .int .u8 0, .int .u8 0, .int .u8 0, .int .u8 0, .int .u8 0, .int .u8 0, .int .u8 0, .int .u8 0, .int .u8 0, .int .u8 0, .int .u8 0, .int .u8 0, .int .u8 0, .int .u8 0, .int .u8 0, .int .u8 0, .int .u8 0, .int .u8 0, .int .u8 0, .int .u8 0, .int .u8 0, .int .u8 0, .int .u8 0, .int .u8 0, .int .u8 0, .int .u8 0, .int .u8 0, .int .u8 0, .int .u8 0, .int .u8 0, .int .u8 0, .int .u8 0, .int .u8 0, .int .u8 0, .int .u8 0, .int .u8 0, .int .u8 0, .int .u8 0, .int .u8 0, .int .u8 0, .int .u8 0, .int .u8 0, .int .u8 0, .int .u8 0, .int .u8 0, .int .u8 0, .int .u8 0, .int .u8 0, .int .u8 0, .int .u8 0, .int .u8 0, .int .u8 0, .int .u8 0, .int .u8 0, .int .u8 0, .int .u8 0, .int .u8 0, .int .u8 0, .int .u8 0, .int .u8 0, .int .u8 0, .int .u8 0, .int .u8 0, .int .u8 0, .int .u8 0, .int .u8 0, .int .u8 0, .int .u8 0, .int .u8 0, .int .u8 0, .int .u8 0, .int .u8 0, .int .u8 0, .int .u8 0, .int .u8 0, .int .u8 0, .int .u8 0, .int .u8 0, .int .u8 0, .int .u8 0, .int .u8 0, .int .u8 0, .int .u8 0, .int .u8 0, .int .u8 0, .int .u8 0, .int .u8 0, .int .u8 0, .int .u8 0, .int .u8 0, .int .u8 0, .int .u8 0, .int .u8 0, .int .u8 0, .int .u8 0, .int .u8 0, .int .u8 0, .int .u8 0, .int .u8 0, .int .u8 0, .int .u8 0, .int .u8 0, .int .u8 0, .int .u8 0, .int .u8 0, .int .u8 0, .int .u8 0, .int .u8 0, .int .u8 0, .int .u8 0, .int .u8 0, .int .u8 0, .int .u8 0, .int .u8 0, .int .u8 0, .int .u8 0, .int .u8 0, .int .u8 0, .int .u8 0, .int .u8 0, .int .u8 0, .int .u8 0, .int .u8 0, .int .u8 0, .int .u8 0, .int .u8 0, .int .u8 0, .int .u8 0, .int .u8 0, .int .u8 0, .int .u8 0, .int .u8 0, .int .u8 0, .int .u8 0, .int .u8 0, .int .u8 0, .int .u8 0, .int .u8 0, .int .u8 0, .int .u8 0, .int .u8 0, .int .u8 0, .int .u8 0, .int .u8 0, .int .u8 0, .int .u8 0, .int .u8 0, .int .u8 0, .int .u8 0, .int .u8 0, .int .u8 0, .int .u8 0, .int .u8 0, .int .u8 0, .int .u8 0, .int .u8 0, .int .u8 0, .int .u8 0, .int .u8 0, .int .u8 0, .int .u8 0, .int .u8 0, .int .u8 0, .int .u8 0, .int .u8 0, .int .u8 0, .int .u8 0, .int .u8 0, .int .u8 0, .int .u8 0, .int .u8 0, .int .u8 0, .int .u8 0, .int .u8 0, .int .u8 0, .int .u8 0, .int .u8 0, .int .u8 0, .int .u8 0, .int .u8 0, .int .u8 0, .int .u8 0, .int .u8 0, .int .u8 0, .int .u8 0, .int .u8 0, .int .u8 0, .int .u8 0, .int .u8 0, .int .u8 0, .int .u8 0, .int .u8 0, .int .u8 0, .int .u8 0, .int .u8 0, .int .u8 0, .int .u8 0, .int .u8 0, .int .u8 0, .int .u8 0, .int .u8 0, .int .u8 0, .int .u8 0, .int .u8 0, .int .u8 0, .int .u8 0, .int .u8 0, .int .u8 0, .int .u8 0] t fr
   | o => o
 let h2 := h1.modify ((Tryz.prog.globalNamed "unicode.White_Space").getD 0) fun
   | .cells _ t fr => .cells #[.pointer (some ⟨w0.heap.size, 0, none⟩)] t fr
   | o => o
 { w0 with heap := (h2.push (.cells #[.slice (some ⟨w0.heap.size + 1, 0, none⟩) 7 7, .slice none 0 0, .int .i64 2] 165 (0, 0))).push (.cells #[.int .u16 9, .int .u16 13, .int .u16 1, .int .u16 32, .int .u16 133, .int .u16 101, .int .u16 160, .int .u16 5760, .int .u16 5600, .int .u16 8192, .int .u16 8202, .int .u16 1, .int .u16 8232, .int .u16 8233, .int .u16 1, .int .u16 8239, .int .u16 8287, .int .u16 48, .int .u16 12288, .int .u16 12288, .int .u16 1] 168 (0, 0)) }
end Go.Proofs.YthldagplhklbnaaGreatDoor
namespace Go.Fr
open Go.RowKit Go.Kx
theorem flat_drop {α : Type} {fs : α → List SP} {s : Nat} (h0 : ∀ a, (fs a).length = s) : ∀ (l : List α) (i : Nat) (hi : i < l.length), (l.flatMap fs).drop (i * s) = fs l[i] ++ (l.drop (i + 1)).flatMap fs
 | x :: xs, 0, _ => by simp
 | x :: xs, i + 1, hi => by
   rw [List.flatMap_cons, show (i + 1) * s = (fs x).length + i * s by rw [h0, Nat.succ_mul, Nat.add_comm], ← List.drop_drop, List.drop_left]
   rw [flat_drop h0 xs i (by simpa using hi)]
   simp
theorem flat_take_at {α : Type} {fs : α → List SP} {s : Nat} (h0 : ∀ a, (fs a).length = s) (l : List α) (i : Nat) (hi : i < l.length) : ((l.flatMap fs).drop (i * s)).take s = fs l[i] := by
 rw [flat_drop h0 l i hi, List.take_append_of_le_length (by rw [h0]; omega), List.take_of_length_le (by rw [h0]; omega)]
theorem flat_take_n {α : Type} {fs : α → List SP} {s : Nat} (h0 : ∀ a, (fs a).length = s) : ∀ (l : List α) (i : Nat), (l.flatMap fs).take (i * s) = (l.take i).flatMap fs
 | [], i => by simp
 | x :: xs, 0 => by simp
 | x :: xs, i + 1 => by
   rw [List.flatMap_cons, show (i + 1) * s = (fs x).length + i * s by rw [h0, Nat.succ_mul, Nat.add_comm], List.take_length_add_append, flat_take_n h0 xs i]
   simp
theorem putC_flat {α : Type} {fs : α → List SP} {s : Nat} (h0 : ∀ a, (fs a).length = s) (l : List α) (i : Nat) (hi : i < l.length) (x : α) : putC (l.flatMap fs) (i * s) (fs x) = (l.set i x).flatMap fs := by
 unfold putC
 have e1 : i * s + (fs x).length = (i + 1) * s := by rw [h0, Nat.succ_mul]
 have e2 : (l.flatMap fs).drop ((i + 1) * s) = (l.drop (i + 1)).flatMap fs := by
   rw [Nat.succ_mul, ← List.drop_drop, flat_drop h0 l i hi, ← h0 l[i], List.drop_left]
 rw [e1, e2, flat_take_n h0, List.set_eq_take_append_cons_drop, if_pos hi]
 simp [List.append_assoc]
section
variable {C : Cx} {H : Nat → Prop} {l0 : List Ent} {env : Env} {loc : List Ent} {d : Nat} {dst : Option Tmp} {ty : TypeId} {pos : String} {af : Array Edge} {g : Option (Nat × Bool)} {K : Env → List Ent → Prop}
theorem WT_loadE {α : Type} {fs : α → List SP} {l : List α} {t : TypeId} {x : Operand} {k b i sz T tot : Nat} {dd : TypeDesc} {bt : Nat} {z : Value} (hx : ev env x = some (ex (.pointer (some ⟨b, 0 + i * sz, none⟩)))) (he : loc[k]? = some (row b T tot (l.flatMap fs))) (hu : C.P.underlying t = some dd) [hl : LenS fs sz] [hT : TI C.P t sz bt z] (hi : i < l.length := by first | assumption | omega | (simp; omega)) (hH : H b := by first | trivial | exact Zc1 (k := 0) rfl | exact Zc1 (k := 1) rfl | exact Zc1 (k := 2) rfl | exact Zc1 (k := 3) rfl | exact Zc1 (k := 4) rfl | exact Zc1 (k := 5) rfl | exact Zc1 (k := 6) rfl | exact Zc1 (k := 7) rfl) (hd : Desc.aggB dd = true := by rfl) :
   WT C (Hold H) ⟨dst, .load t x, ty, pos, af, g⟩ (agg (fs (l[i]'hi))) env loc := by
 have h1 : Nat.ble (0 + i * sz + sz) (l.flatMap fs).length = true := by
   rw [Nat.ble_eq, length_flat hl.len, Nat.zero_add]
   have : (i + 1) * sz ≤ l.length * sz := Nat.mul_le_mul_right _ hi
   rw [Nat.succ_mul] at this; exact this
 have h := WT_loada (C := C) (H := H) (dst := dst) (ty := ty) (pos := pos) (af := af) (g := g) hx he hu (hT := hT) hH hd h1
 rw [Nat.zero_add, flat_take_at hl.len l i hi] at h
 exact h
theorem WO_storeE {α : Type} {fs : α → List SP} {l : List α} {v : α} {t : TypeId} {x y : Operand} {k b i sz T tot bt : Nat} {z : Value} (hx : ev env x = some (ex (.pointer (some ⟨b, 0 + i * sz, none⟩)))) (he : loc[k]? = some (row b T tot (l.flatMap fs))) (hy : ev env y = some (agg (fs v))) [hl : LenS fs sz] [hs : Scs (fs v)] [hT : TI C.P t sz bt z] (hk : K env (loc.set k (row b T tot ((l.set i v).flatMap fs)))) (hi : i < l.length := by first | assumption | omega | (simp; omega)) (hH : l0.Sublist (loc.eraseIdx k) := by exact List.nil_sublist _) : WO C (feet l0) ⟨none, .store t x y, ty, pos, af, g⟩ K env loc := by
 have hT' : TI C.P t (fs v).length bt z := by rw [hl.len]; exact hT
 refine Zal (k := k) hx hy he (hT := hT') (hc := AsC_agg) (hs := hs) ?_ ?_ hH
 · rw [Nat.zero_add, putC_flat hl.len l i hi]; exact hk
 · rw [hl.len, length_flat hl.len, Nat.zero_add]
   have : (i + 1) * sz ≤ l.length * sz := Nat.mul_le_mul_right _ hi
   rw [Nat.succ_mul] at this; exact this
theorem Zcf {t : TypeId} {x : Operand} {b : Nat} {p : SP} {ps : List SP} {dd : TypeDesc} (hx : ev env x = some (fpx b (p :: ps))) (hu : C.P.underlying t = some dd) (hd : Desc.aggB dd = false := by rfl) : WT C (Hold H) ⟨dst, .load t x, ty, pos, af, g⟩ p env loc := by
 constructor
 intro F a w hR
 obtain ⟨hv, h1, h2, h3⟩ := Zbb hR hx
 obtain ⟨u, h4, h5⟩ := h3 0 p rfl
 exact ⟨u, h5, fun w' hs => run_load_one hv hu hd ((World.cell?_of_block (w := w) (hs b h2 (.inl h1))).trans h4)⟩
end
theorem vec_slice {C : Cx} {F : Nat → Prop} {env : Env} {loc : List Ent} {a : Act} {w : World} (hR : Rel C F env loc a w) {k T sz n : Nat} {v : Value} {ps : List SP} (he : loc[k]? = some (vec v T sz n ps)) : ∃ oa c, v = .slice oa n c := by
 obtain ⟨xs, h1, _⟩ := hR.good.rel _ (List.mem_append_left _ (List.mem_of_getElem? he))
 rcases h1.2 with ⟨h2, h3⟩ | ⟨g, cap, cur, h2, _⟩
 · subst h3; exact ⟨none, 0, h2⟩
 · exact ⟨_, _, h2⟩
theorem WPL_vsl {C : Cx} {ops : Array Oper} {Q : Post} {l : List Oper} {env : Env} {loc : List Ent} {k T sz n : Nat} {v : Value} {ps : List SP} (he : loc[k]? = some (vec v T sz n ps)) (h : ∀ oa c, v = .slice oa n c → WPL C ops Q l env loc) : WPL C ops Q l env loc := ⟨fun F a w hR => by obtain ⟨b, c, hv⟩ := vec_slice hR he; exact (h b c hv).out F a w hR⟩
theorem Leads_row_vec {C : Cx} {env env' : Env} {loc loc' : List Ent} {k b T tot sz n c : Nat} {ps : List SP} (he : loc[k]? = some (row b T tot ps)) (ht : tot = c * sz) (hn : ps.length = n * sz) (h0 : 0 < sz) (hc : c ≤ maxLen) (h : Leads C env (loc.set k (vec (.slice (some ⟨b, 0, none⟩) n c) T sz n ps)) env' loc') : Leads C env loc env' loc' := (LeadsS_row_vec he ht hn h0 hc).leads.trans h
end Go.Fr
namespace Go.Fr
open Go.RowKit Go.Kx
theorem Rel.frz {C : Cx} {F : Nat → Prop} {env : Env} {loc : List Ent} {a : Act} {w : World} {k : Nat} {e : Ent} (hR : Rel C F env loc a w) (he : loc[k]? = some e) : Rel C (fun j => F j ∨ j ∈ e.foot) env (loc.eraseIdx k) a w := by
 have hmem : e ∈ loc ++ C.out := List.mem_append_left _ (List.mem_of_getElem? he)
 have hm : ∀ j, F j → j < w.heap.size → (F j ∨ j ∈ e.foot) ∧ w.heap[j]? = w.heap[j]? := fun j hj _ => ⟨.inl hj, rfl⟩
 have hG := hR.good.perm ((erase_perm he).append_right C.out)
 have hdis : ∀ e2 ∈ loc.eraseIdx k ++ C.out, ∀ b ∈ e2.foot, b ∉ e.foot := by
   intro e2 h2 b hb hb2
   have hd := hG.disj
   rw [List.cons_append] at hd
   exact (List.pairwise_cons.1 hd).1 e2 h2 b hb2 hb
 have hsub : ∀ e2 ∈ loc.eraseIdx k ++ C.out, e2 ∈ loc ++ C.out := fun e2 h => by
   rcases List.mem_append.1 h with h | h
   · exact List.mem_append_left _ (List.mem_of_mem_eraseIdx h)
   · exact List.mem_append_right _ h
 refine ⟨⟨fun e2 h2 => e2.mono (hR.good.rel e2 (hsub e2 h2)) hm fun _ _ => rfl, fun e2 h2 j hj => ⟨(hR.good.lt e2 (hsub e2 h2) j hj).1, ?_⟩, ?_⟩, fun t' q' hq => q'.mono (hR.env t' q' hq) hm, hR.size, hR.defers, hR.ch, fun e2 h2 => hR.own e2 (List.mem_of_mem_eraseIdx h2), fun j hj hlt => .inl (hR.grow j hj hlt)⟩
 · rintro (h | h)
   · exact (hR.good.lt e2 (hsub e2 h2) j hj).2 h
   · exact hdis e2 h2 j hj h
 · have := hG.disj
   rw [List.cons_append] at this
   exact (List.pairwise_cons.1 this).2
theorem Leads_frzcell {C : Cx} {env : Env} {loc : List Ent} {j k i b T tot : Nat} {e : Ent} {ps : List SP} {p0 p : SP} (hj : loc[j]? = some e) (hk : (loc.eraseIdx j)[k]? = some (row b T tot ps)) (hi : ps[i]? = some p0)
   (hc : ∀ F w v, e.rel F w → (∀ b ∈ e.foot, b < w.heap.size) → p0.rel F w v → p.rel (fun j => F j ∨ j ∈ e.foot) w v) : Leads C env loc env ((loc.eraseIdx j).set k (row b T tot (ps.set i p))) := by
 intro F a w hR
 have hR2 := hR.frz hj
 have hmem : e ∈ loc ++ C.out := List.mem_append_left _ (List.mem_of_getElem? hj)
 have hmem2 : row b T tot ps ∈ loc ++ C.out := List.mem_append_left _ (List.mem_of_mem_eraseIdx (List.mem_of_getElem? hk))
 refine ⟨_, hR2.turn hk (fun _ h => h) ?_⟩
 obtain ⟨cur, h1, h2, h3⟩ := hR.good.rel _ hmem2
 refine ⟨cur, h1, h2, fun n q hq => ?_⟩
 by_cases hn : n = i
 · subst hn
   have hlt : n < ps.length := (List.getElem?_eq_some_iff.1 hi).1
   rw [List.getElem?_set_self hlt] at hq
   cases hq
   obtain ⟨v, h4, h5⟩ := h3 n p0 hi
   exact ⟨v, h4, hc F w v (hR.good.rel e hmem) (fun b hb => (hR.good.lt e hmem b hb).1) h5⟩
 · rw [List.getElem?_set_ne (Ne.symm hn)] at hq
   obtain ⟨v, h4, h5⟩ := h3 n q hq
   exact ⟨v, h4, q.mono h5 fun j hj _ => ⟨.inl hj, rfl⟩⟩
theorem Leads_fmapcell {κ : Type} [DecidableEq κ] [MK κ] {C : Cx} {env : Env} {loc : List Ent} {j k i b bm T tot : Nat} {m : List (κ × SP)} {ps : List SP} (hj : loc[j]? = some (omap bm m)) (hk : (loc.eraseIdx j)[k]? = some (row b T tot ps)) (hi : ps[i]? = some (ex (.map (some bm)))) : Leads C env loc env ((loc.eraseIdx j).set k (row b T tot (ps.set i (fmap m)))) := by
 refine Leads_frzcell hj hk hi ?_
 rintro F w v h hlt hv
 exact ⟨bm, hv, .inr (by simp [omap]), hlt bm (by simp [omap]), h.mono (fun j hj _ => ⟨.inl hj, rfl⟩) rfl⟩
theorem Zbw {C : Cx} {H : Nat → Prop} {n0 : Nat} {ops : Array Oper} {Q : Post} {fuel : Nat} {listed : Array Bool} {env : Env} {loc : List Ent} {k T sz n : Nat} {v : Value} {ps : List SP} (he : loc[k]? = some (vec v T sz n ps)) (h : ∀ oa c, v = .slice oa n c → WPY C H n0 ops Q fuel listed env loc) : WPY C H n0 ops Q fuel listed env loc := ⟨fun F a w hR => by obtain ⟨oa, c, hv⟩ := vec_slice hR he; exact (h oa c hv).out F a w hR⟩
end Go.Fr
namespace Go.Fr
open Go.RowKit Go.Kx
theorem putC_one {ps : List SP} {off : Nat} {p : SP} (h : off < ps.length) : putC ps off [p] = ps.set off p := by
 unfold putC
 rw [List.set_eq_take_append_cons_drop, if_pos h]
 simp
theorem flat_set1 {α : Type} {fs : α → List SP} {s : Nat} (h0 : ∀ a, (fs a).length = s) : ∀ (l : List α) (i : Nat) (hi : i < l.length) (j : Nat) (_ : j < s) (p : SP) (x : α) (_ : (fs l[i]).set j p = fs x), (l.flatMap fs).set (i * s + j) p = (l.set i x).flatMap fs
 | y :: ys, 0, _, j, hj, p, x, hx => by
   simp only [Nat.zero_mul, Nat.zero_add, List.flatMap_cons, List.set_cons_zero]
   rw [List.set_append_left _ _ (by rw [h0]; exact hj)]
   rw [show (fs y).set j p = fs x from hx]
 | y :: ys, i + 1, hi, j, hj, p, x, hx => by
   simp only [List.flatMap_cons, List.set_cons_succ]
   rw [List.set_append_right _ _ (by rw [h0, Nat.succ_mul]; omega), h0, show (i + 1) * s + j - s = i * s + j by rw [Nat.succ_mul]; omega]
   rw [flat_set1 h0 ys i (by simpa using hi) j hj p x (by simpa using hx)]
section
variable {C : Cx} {H : Nat → Prop} {l0 : List Ent} {env : Env} {loc : List Ent} {d : Nat} {dst : Option Tmp} {ty : TypeId} {pos : String} {af : Array Edge} {g : Option (Nat × Bool)} {K : Env → List Ent → Prop}
theorem WO_store1 {t : TypeId} {x y : Operand} {k b off T tot : Nat} {ps : List SP} {p : SP} {bt : Nat} {z : Value} (hx : ev env x = some (ex (.pointer (some ⟨b, off, none⟩)))) (hy : ev env y = some p) (he : loc[k]? = some (row b T tot ps)) [hs : Sc p] [hT : TI C.P t 1 bt z] (hk : K env (loc.set k (row b T tot (ps.set off p)))) (ho : off < ps.length := by first | assumption | omega) (hH : l0.Sublist (loc.eraseIdx k) := by exact List.nil_sublist _) : WO C (feet l0) ⟨none, .store t x y, ty, pos, af, g⟩ K env loc := by
 refine Zal (k := k) (qs := [p]) hx hy he (hc := AsC_one) (hs := inferInstance) (hT := hT) ?_ ?_ hH
 · rw [putC_one ho]; exact hk
 · exact ho
end
end Go.Fr
namespace Go.Fr
open Go.RowKit Go.Kx
theorem Ims.get {ps qs : List SP} (h : Ims ps qs) : ∀ {i : Nat} {q : SP}, qs[i]? = some q → ∃ p, ps[i]? = some p ∧ Im p q := by
 induction h with
 | nil => intro i q hq; simp at hq
 | cons h _ ih =>
   intro i q hq
   cases i with
   | zero => simp at hq; subst hq; exact ⟨_, rfl, h⟩
   | succ i => exact ih (by simpa using hq)
theorem Leads_row_im {C : Cx} {env : Env} {loc : List Ent} {k b T tot : Nat} {ps qs : List SP} (he : loc[k]? = some (row b T tot ps)) (h : Ims ps qs) : Leads C env loc env (loc.set k (row b T tot qs)) :=
 (LeadsS_turn (e' := row b T tot qs) he (fun _ hx => hx) (by
   rintro F w ⟨cur, h1, h2, h3⟩
   refine ⟨cur, h1, h2, fun i q hq => ?_⟩
   obtain ⟨p, hp, hi⟩ := h.get hq
   obtain ⟨v, hv, hr⟩ := h3 i p hp
   exact ⟨v, hv, hi _ _ _ hr⟩)).leads
theorem WPL_frowi {C : Cx} {env : Env} {loc : List Ent} {ops : Array Oper} {Q : Post} {ol : List Oper} {k b T n c t tot : Nat} {ps : List SP} {α : Type} {E : Enc α} {fs : α → List SP} (l : List α) (ht : look t env = some (ex (.slice (some ⟨b, 0, none⟩) n c))) (he : loc[k]? = some (row b T tot ps)) [hE : Fits E fs] (hps : Ims ps (l.flatMap fs)) (hn : l.length = n) (h : WPL C ops Q ol ((t, isl E l) :: env) (loc.eraseIdx k)) (htot : tot = c * E.size := by first | rfl | omega) (hc : c ≤ maxLen := by first | assumption | omega | (simp only [maxLen]; omega)) (hf0 : ∀ a, (fs a).length = E.size := by exact fun _ => rfl) (hpos : 0 < E.size := by first | decide | exact Nat.zero_lt_succ _) (hby : n * E.bytes ≤ 140737488355328 := by first | omega | (simp only [eSl, eByte]; omega)) : WPL C ops Q ol env loc := by
 refine WPL_leads (Leads_row_im he hps) ?_
 have hk : k < loc.length := (List.getElem?_eq_some_iff.1 he).1
 refine WPL_frow (k := k) (E := E) (fs := fs) (c := c) l ht (List.getElem?_set_self hk) rfl hn ?_ htot hc hf0 hpos hby
 have e : (loc.set k (row b T tot (l.flatMap fs))).eraseIdx k = loc.eraseIdx k := by
   rw [List.eraseIdx_set_eq]
 rw [e]; exact h
theorem at_dst (d : Nat) {C : Cx} {ops : Array Oper} {Q : Post} {op : Op} {ty : TypeId} {pos : String} {af : Array Edge} {g : Option (Nat × Bool)} {rest : List Oper} {env : Env} {loc : List Ent} (h : WPL C ops Q (⟨some d, op, ty, pos, af, g⟩ :: rest) env loc) : WPL C ops Q (⟨some d, op, ty, pos, af, g⟩ :: rest) env loc := h
end Go.Fr
namespace Go.Fr
open Go.RowKit Go.Kx
theorem few_facts {r : RulesD} (h : r.few = true) : r.crits.length ≤ 70 ∧ r.bonus.length ≤ 70 ∧ r.malus.length ≤ 70 ∧ r.ties.length ≤ 20 ∧ r.rounds.length ≤ 12 ∧ r.prizes.length ≤ 70 ∧ r.points.length ≤ 70 ∧ (∀ t ∈ r.ties, t.keys.length ≤ 40) ∧ ∀ y ∈ r.rounds, y.score.tot ≤ 400 := by
 unfold RulesD.few at h
 simp only [Bool.and_eq_true, Bool.not_eq_true', Bool.or_eq_false_iff, decide_eq_false_iff_not, List.all_eq_true, decide_eq_true_eq] at h
 obtain ⟨⟨h1, h2, h3, h4, h5, h6, h7⟩, h8, h9⟩ := h
 exact ⟨by omega, by omega, by omega, by omega, by omega, by omega, by omega, h8, h9⟩
end Go.Fr
