/- The walk of disk.perform. -/
import Derived.Test.YtckcdokfhdckhaaRows
import Derived.Test.YtckcdokfhdckhaaDisk2
import Derived.WalkKit
import Derived.WalkLawsBesides
import Derived.WalkSpells
import Derived.Outline
import Derived.Lib.Hide
import Derived.Laws.CopyOwn
import Derived.Deep.OwnRows
import Derived.RangeFuncBox
import Derived.Deep.RegionWith
import Derived.Deep.RegionHeld3
import Derived.StillTailTactics
import Derived.Deep.Cut
import Derived.Deep.CutBlock
namespace Go.Proofs.Ytckcdokfhdckhaa
open Go.RowKit Go.Kx

theorem Elems.set {α : Type} {E : Enc α} {S : Nat → Prop} {w : World} {xs : List Value} {l : List α} (h : Elems E S w xs l) (hsz : E.size = 1) (j : Nat) {u : Value} {x : α} (hu : E.rel S w [u] x) : Elems E S w (xs.set j u) (l.set j x) := by
  refine ⟨by simp [h.length], fun i hi => ?_⟩
  have hi' : i < l.length := by simpa using hi
  have hx : i < xs.length := by rw [h.length, hsz]; omega
  have h1 := h.elem i hi'
  rw [hsz, Nat.mul_one] at h1 ⊢
  rw [List.drop_eq_getElem_cons hx] at h1
  rw [List.drop_eq_getElem_cons (by simpa using hx)]
  simp only [List.take_succ_cons, List.take_zero] at h1 ⊢
  rw [List.getElem_set, List.getElem_set]
  split
  · exact hu
  · exact h1

/-- The sectors after some writes. -/
def performF (secs : List Bytes) (l : List Wr) : List Bytes := l.foldl (fun s x => s.set x.at_.toNat x.data) secs
theorem performF_step (secs : List Bytes) (l : List Wr) (k : Nat) (h : k < l.length) : performF secs (l.take (k + 1)) = (performF secs (l.take k)).set l[k].at_.toNat l[k].data := by
  rw [List.take_succ_eq_append_getElem h]; simp only [performF, List.foldl_append, List.foldl_cons, List.foldl_nil]
theorem performF_length (secs : List Bytes) (l : List Wr) : (performF secs l).length = secs.length := by
  unfold performF
  induction l generalizing secs with
  | nil => rfl
  | cons x r ih => simp only [List.foldl_cons]; rw [ih]; simp

/-- What perform hands back: a slice of its own, whose elements lie in old memory. -/
def RetPerf (S : Nat → Prop) (w : World) (l : List Bytes) (e : Ending) (w' : World) : Prop :=
  ∃ v xs, e = .returned v ∧ w'.ownsRow w.heap.size 35 1 v l.length xs ∧ Elems (eSl eByte) (fun b => S b ∧ b < w.heap.size) w xs l ∧ Below w.heap.size w w'

set_option maxHeartbeats 2000000 in
theorem perform_any (S : Nat → Prop) (w : World) (sa : Option Addr) (sn sc : Nat) (pa : Option Addr) (pn pc : Nat) (secs : List Bytes) (l : List Wr)
    (hs : Sl (eSl eByte) S w sa sn sc secs) (hp : Sl eWr S w pa pn pc l) (hv : ∀ i (h : i < l.length), 0 ≤ l[i].at_ ∧ l[i].at_ < (sn : Int)) :
    Calls Try.prog 40 #[.slice sa sn sc, .slice pa pn pc] w (RetPerf S w (performF secs l)) := by
  have H := Lib.hid (cloneB_any (fun b => S b ∧ b < w.heap.size) w sa sn sc secs (hs.mono fun b hS hb => ⟨⟨hS, hb⟩, rfl⟩))
  have hls := Lib.hid hs.length
  have hlp := Lib.hid hp.length
  have HP := Lib.hid hp
  have HV := Lib.hid hv
  have hpn : pn ≤ 4398046511104 := by have := hp.bytes; simp [eWr] at this; omega
  have hsn : sn ≤ 140737488355328 := by have := hs.bytes; simp [eSl] at this; omega
  clear hs hp hv
  go_enter Try.func40, Try.ntmps40
  go_wp2_with ((with_reducible refine H.out.mono ?_); rintro e w1 ⟨v, xs, rfl, hown, hel, hb1⟩; have HO := Lib.hid hown; have HE := Lib.hid hel; clear hown hel H)
  have hown : Hid (w1.ownsRow w.heap.size 35 1 v sn xs) := by have := HO.out; rw [hls.out] at this; exact this
  obtain ⟨a, c, rfl⟩ := own_form hown.out
  go_loopw [12] (fun i wr => ∃ (k : Nat) (xs : List Value), k ≤ pn ∧ i = .int .i64 k ∧ Hid (wr.ownsRow w.heap.size 35 1 (.slice a sn c) sn xs) ∧ Hid (Elems (eSl eByte) (fun b => S b ∧ b < w.heap.size) w xs (performF secs (l.take k))) ∧ Below w.heap.size w wr) (fun i _ => pn - (intOf i).toNat)
  case atStart => exact ⟨0, xs, by omega, rfl, hown, HE.out.mono fun b hb _ => ⟨hb, (hb1.block b hb.2).symm⟩, hb1⟩
  case round =>
    obtain ⟨k, ys, hk, rfl, HOr, HEr, hbr⟩ := hrel
    clear HO HE hown
    by_cases hlt : k < pn
    · have hkl : k < l.length := by have := hlp.out; omega
      obtain ⟨b, off, oa, n1, c1, rfl, hb, hS, hc0, hc1, hx, hlo, hhi⟩ := Sl.wr HP.out hbr k hkl
      obtain ⟨hv0, hv1⟩ := HV.out k hkl
      obtain ⟨at', hat⟩ := Int.eq_ofNat_of_zero_le hv0
      have hav : at' < sn := by omega
      obtain ⟨sn', rfl⟩ : ∃ s, sn = s + 1 := ⟨sn - 1, by omega⟩
      obtain ⟨g, cap, hvv⟩ := ownsRow_succ HOr.out
      cases hvv
      have hcell : wr.cell? ⟨g, at', none⟩ = ys[at']? := HOr.out.cellAt at' (by omega)
      have hys : at' < ys.length := by have := HOr.out.1; omega
      rw [List.getElem?_eq_getElem hys] at hcell
      have hfr : wr.frozen? ⟨g, at', none⟩ = false := HOr.out.frozenAt at'
      have hgw : w.heap.size ≤ g := (HOr.out.lt g rfl).1
      have hgr : g < wr.heap.size := (HOr.out.lt g rfl).2
      have HST := Lib.hid (performF_step secs l k hkl)
      rw [hat] at hc0
      have HAT := Lib.hid hat
      have HX := Lib.hid hx
      generalize ys[at'] = y at hcell
      clear hat hv0 hv1 hlo hhi hx
      go_wp2
      refine ⟨⟨k + 1, ys.set at' (.slice oa n1 c1), by omega, by go_num, ?_, ?_, ?_⟩, by simp [intOf]; omega⟩
      · exact (HOr.out.stored at' _).1.alloc _
      · show Elems _ _ _ _ _
        rw [HST.out, HAT.out]
        exact Elems.set HEr.out rfl at' ⟨oa, n1, c1, rfl, HX.out.mono fun b hS hb => ⟨⟨hS, hb⟩, rfl⟩⟩
      · (repeat (first | (with_reducible assumption) | exact Below.refl _ _ | refine Below.setCell ?_ (by first | (simp; done) | (simp; omega) | omega) _ | refine Below.alloc ?_ (by first | (simp; done) | (simp; omega) | omega) _ | refine Below.drew ?_ | refine below_drewN ?_ _))
    · go_wp2
      go_ret
      have e : l.take k = l := List.take_of_length_le (by have := hlp.out; omega)
      refine ⟨_, ys, rfl, ?_, by have := HEr.out; rwa [e] at this, hbr⟩
      rw [performF_length, hls.out]; exact HOr.out

end Go.Proofs.Ytckcdokfhdckhaa

/- The walk of disk.Sync. -/
namespace Go.Proofs.Ytckcdokfhdckhaa
open Go.RowKit Go.Kx

/-- The sector that is torn. -/
def tornF (x : Wr) (old : Bytes) : Bytes := x.data.take 64 ++ old.drop 64
def nthW (l : List Wr) (i : Nat) : Wr := l.getD i ⟨0, []⟩
def stopsF (d : Disk) : Disk :=
  ⟨(performF d.secs (d.pend.take d.left.toNat)).set (nthW d.pend d.left.toNat).at_.toNat (tornF (nthW d.pend d.left.toNat) ((performF d.secs (d.pend.take d.left.toNat)).getD (nthW d.pend d.left.toNat).at_.toNat [])), [], 0, true⟩
def syncF (d : Disk) : Disk × Int :=
  if Disk.ok d && !d.stopped then
    if 0 ≤ d.left ∧ d.left < (d.pend.length : Int) then (stopsF d, 40)
    else (⟨performF d.secs d.pend, [], if 0 ≤ d.left then d.left - d.pend.length else d.left, false⟩, 0)
  else (zeroDisk, 40)

theorem pend_ok {d : Disk} (h : Disk.ok d = true) : ∀ i (hi : i < d.pend.length), (0 ≤ d.pend[i].at_ ∧ d.pend[i].at_ < (d.secs.length : Int)) ∧ d.pend[i].data.length = 128 := by
  intro i hi
  have h1 := (Disk.ok_out h).2.2.2.2.2.1
  rw [List.any_eq_false] at h1
  have h2 := h1 _ (List.getElem_mem hi)
  simp only [badW, Bool.or_eq_true, decide_eq_true_eq, Bool.not_eq_true', beq_eq_false_iff_ne, ne_eq, not_or] at h2
  omega

set_option maxRecDepth 20000 in
set_option maxHeartbeats 2000000 in
theorem sync_go (S : Nat → Prop) (w : World) (sa : Option Addr) (sn sc : Nat) (pa : Option Addr) (pn pc : Nat) (D : Disk)
    (h : DiskAt S w sa sn sc pa pn pc D) (hok : (Disk.ok D && !D.stopped) = true) (hgo : D.left < 0 ∨ (pn : Int) ≤ D.left) :
    Calls Try.prog 23 #[.agg #[.slice sa sn sc, .slice pa pn pc, .int .i64 D.left, .bool D.stopped]] w (RetDisk S w (⟨performF D.secs D.pend, [], if 0 ≤ D.left then D.left - pn else D.left, false⟩, 0)) := by
  have hb0 : Below w.heap.size w ((w.alloc (.cells #[.slice sa sn sc, .slice pa pn pc, .int .i64 D.left, .bool D.stopped] 25)).alloc (.cells #[.slice none 0 0, .slice none 0 0, .int .i64 0, .bool false] 25)) := by (repeat (first | (with_reducible assumption) | exact Below.refl _ _ | refine Below.setCell ?_ (by first | (simp; done) | (simp; omega) | omega) _ | refine Below.alloc ?_ (by first | (simp; done) | (simp; omega) | omega) _ | refine Below.drew ?_ | refine below_drewN ?_ _))
  have hD0 : ((w.alloc (.cells #[.slice sa sn sc, .slice pa pn pc, .int .i64 D.left, .bool D.stopped] 25)).alloc (.cells #[.slice none 0 0, .slice none 0 0, .int .i64 0, .bool false] 25)).heap[w.heap.size]? = some (.cells #[.slice sa sn sc, .slice pa pn pc, .int .i64 D.left, .bool D.stopped] 25 (0, 0)) := by
    rw [Below.heap_alloc _ _ _ (by simp)]; exact heap_alloc_at _ _ _ rfl
  have hR0 : ((w.alloc (.cells #[.slice sa sn sc, .slice pa pn pc, .int .i64 D.left, .bool D.stopped] 25)).alloc (.cells #[.slice none 0 0, .slice none 0 0, .int .i64 0, .bool false] 25)).heap[w.heap.size + 1]? = some (.cells #[.slice none 0 0, .slice none 0 0, .int .i64 0, .bool false] 25 (0, 0)) := heap_alloc_at _ _ _ (by simp)
  have HD0 := Lib.hid hD0
  have HR0 := Lib.hid hR0
  have H := Lib.hid (runs_any S _ sa sn sc pa pn pc D.left D.stopped D.secs D.pend (h.secs.below hb0) (h.pend.below hb0))
  rw [show (Disk.ok { secs := D.secs, pend := D.pend, left := D.left, stopped := D.stopped } && !D.stopped) = true from hok] at H
  have HD := Lib.hid h
  have hls := Lib.hid h.secs.length
  have hlp := Lib.hid h.pend.length
  have hokD : Disk.ok D = true := by simp only [Bool.and_eq_true] at hok; exact hok.1
  have hpn : pn ≤ 4096 := by have := (Disk.ok_out hokD).2.2.1; have := hlp.out; omega
  have hll : D.left ≤ 65536 ∧ -1 ≤ D.left := ⟨(Disk.ok_out hokD).2.2.2.2.1, (Disk.ok_out hokD).2.2.2.1⟩
  obtain ⟨hll1, hll2⟩ := hll
  have hle1 : w.heap.size ≤ ((w.alloc (.cells #[.slice sa sn sc, .slice pa pn pc, .int .i64 D.left, .bool D.stopped] 25)).alloc (.cells #[.slice none 0 0, .slice none 0 0, .int .i64 0, .bool false] 25)).heap.size := by simp; omega
  have HPF := Lib.hid (fun (w1 : World) (hb : Below w.heap.size w w1) => perform_any (fun b => S b ∧ b < w.heap.size) w1 sa sn sc pa pn pc D.secs D.pend (h.secs.mono fun b hS hlt => ⟨⟨hS, hlt⟩, hb.block b hlt⟩) (h.pend.mono fun b hS hlt => ⟨⟨hS, hlt⟩, hb.block b hlt⟩)
    (fun i hi => by have := (pend_ok hokD i hi).1; have := hls.out; omega))
  clear h hD0 hR0 hok hokD
  by_cases hneg : D.left < 0
  · clear hgo
    go_enter Try.func23, Try.ntmps23
    go_wp2_with ((with_reducible refine H.out.mono ?_); rintro e w1 ⟨rfl, hb1⟩; have hz : w.heap.size + 1 < w1.heap.size := (by have := hb1.size; simp at this; omega); have HD1 := Lib.hid ((hb1.block (w.heap.size) (by first | (simp; done) | (simp; omega) | omega)).trans HD0.out); have HR1 := Lib.hid ((hb1.block (w.heap.size + 1) (by first | (simp; done) | (simp; omega) | omega)).trans HR0.out); obtain ⟨d0, d1, d2, d3, df⟩ := box4 HD1.out; have hbw := hb0.trans (hb1.mono hle1); clear hb1 hb0 H HD0 HR0 hle1)
    go_region_held3 (fun w' => w'.cell? ⟨w.heap.size, 0, none⟩ = some (.slice sa sn sc) ∧ w'.cell? ⟨w.heap.size, 1, none⟩ = some (.slice pa pn pc) ∧ w'.cell? ⟨w.heap.size, 2, none⟩ = some (.int .i64 D.left)) (first | exact ⟨d0, d1, d2⟩ | go_keep) (first | (go_at_call 40; refine (HPF.out _ (by (repeat (first | (with_reducible assumption) | exact Below.refl _ _ | refine Below.setCell ?_ (by first | (simp; done) | (simp; omega) | omega) _ | refine Below.alloc ?_ (by first | (simp; done) | (simp; omega) | omega) _ | refine Below.drew ?_ | refine below_drewN ?_ _)))).mono ?_; rintro e w2 ⟨v, xs, rfl, hown, hel, hb2⟩; clear d0 d1 d2 d3 df; have HD2 := Lib.hid ((hb2.block (w.heap.size) (by first | (simp; done) | (simp; omega) | omega)).trans HD1.out); have HR2 := Lib.hid ((hb2.block (w.heap.size + 1) (by first | (simp; done) | (simp; omega) | omega)).trans HR1.out); obtain ⟨d0, d1, d2, d3, df⟩ := box4 HD2.out; obtain ⟨r0, r1, r2, r3, rf⟩ := box4 HR2.out; obtain ⟨a2, c2, rfl⟩ := own_form hown; have HO2 := Lib.hid hown; have HE2 := Lib.hid hel; clear hown hel HD1 HR1))
    have hb2' : Below w1.heap.size w1 w2 := (below_drewN (Below.refl _ w1) 1).trans hb2
    have HO3 : Hid (w2.ownsRow w1.heap.size 35 1 (.slice a2 (performF D.secs D.pend).length c2) (performF D.secs D.pend).length xs) := HO2.out
    have HE3 : Hid (Elems (eSl eByte) (fun b => (S b ∧ b < w.heap.size) ∧ b < w1.heap.size) w1 xs (performF D.secs D.pend)) := Elems.mono HE2.out fun b hb _ => ⟨hb, rfl⟩
    have hl0 := Lib.hid (performF_length D.secs D.pend)
    clear HO2 HE2 hb2
    obtain ⟨W4, hW4⟩ : ∃ W4, W4 = (((w2.setCell ⟨w.heap.size + 1, 0, none⟩ (.slice a2 (performF D.secs D.pend).length c2)).setCell ⟨w.heap.size + 1, 1, none⟩ (.slice none 0 0)).setCell ⟨w.heap.size + 1, 2, none⟩ (.int .i64 D.left)).setCell ⟨w.heap.size + 1, 3, none⟩ (.bool false) := ⟨_, rfl⟩
    have hb4 : Below w.heap.size w W4 := by
      have hb3 : Below w.heap.size w w2 := hbw.trans (hb2'.mono (by omega))
      rw [hW4]
      (repeat (first | (with_reducible assumption) | exact Below.refl _ _ | refine Below.setCell ?_ (by first | (simp; done) | (simp; omega) | omega) _ | refine Below.alloc ?_ (by first | (simp; done) | (simp; omega) | omega) _ | refine Below.drew ?_ | refine below_drewN ?_ _))
    have h4 := set4 (v0 := .slice a2 (performF D.secs D.pend).length c2) (v1 := .slice none 0 0) (v2 := .int .i64 D.left) (v3 := .bool false) HR2.out
    rw [← hW4] at h4 ⊢
    have H4 := Lib.hid h4.2
    obtain ⟨r0, r1, r2, r3, rf⟩ := box4 h4.1
    clear hW4 h4
    go_wp2
    refine bodyPost_ret (v := .tuple #[.agg #[.slice a2 (performF D.secs D.pend).length c2, .slice none 0 0, .int .i64 (D.left), .bool false], .int .i64 0]) (by simp [results, Try.results23, go_sem, r0, r1, r2, r3]) rfl ?_
    obtain ⟨a3, c3, hv, hs3⟩ := Sl.of_owns (S' := fun b => (S b ∧ b < w.heap.size) ∨ w1.heap.size ≤ b) HO3.out (HE3.out.mono (S' := fun b => (S b ∧ b < w.heap.size) ∨ w1.heap.size ≤ b) fun b hb hlt => ⟨.inl hb.1, hb2'.block b hlt⟩) (by decide) (by have := (HD.out.secs).bytes; rw [hl0.out, hls.out]; exact this) (fun b hb _ => hb) (fun g hg => .inr (HO3.out.lt g hg).1)
    cases hv
    refine RetDisk.of (D := ⟨performF D.secs D.pend, [], D.left, false⟩) (by first | rfl | rw [if_neg (by omega)]) rfl rfl (by (repeat (first | (with_reducible assumption) | exact Below.refl _ _ | refine Below.setCell ?_ (by first | (simp; done) | (simp; omega) | omega) _ | refine Below.alloc ?_ (by first | (simp; done) | (simp; omega) | omega) _ | refine Below.drew ?_ | refine below_drewN ?_ _))) fun hbF => ⟨?_, Sl.zero _ _ _, by show (-9223372036854775808 : Int) ≤ D.left; omega, by show (D.left : Int) ≤ 9223372036854775807; omega⟩
    refine hs3.mono fun k hk hlt => ⟨?_, ?_⟩
    · rcases hk with hk | hk
      · exact .inl hk.1
      · exact .inr (by omega)
    · have k1 : k ≠ w.heap.size + 1 := by rcases hk with hk | hk <;> omega
      first
      | rw [set_other _ _ _ _ _ k1, set_other _ _ _ _ _ k1, set_other _ _ _ _ _ k1, set_other _ _ _ _ _ k1, set_other _ _ _ _ _ k1, H4.out k k1]
      | rw [set_other _ _ _ _ _ k1, set_other _ _ _ _ _ k1, set_other _ _ _ _ _ k1, set_other _ _ _ _ _ k1, H4.out k k1]
  · have hge : (pn : Int) ≤ D.left := by omega
    have h0l : 0 ≤ D.left := by omega
    clear hgo hneg
    go_enter Try.func23, Try.ntmps23
    go_wp2_with ((with_reducible refine H.out.mono ?_); rintro e w1 ⟨rfl, hb1⟩; have hz : w.heap.size + 1 < w1.heap.size := (by have := hb1.size; simp at this; omega); have HD1 := Lib.hid ((hb1.block (w.heap.size) (by first | (simp; done) | (simp; omega) | omega)).trans HD0.out); have HR1 := Lib.hid ((hb1.block (w.heap.size + 1) (by first | (simp; done) | (simp; omega) | omega)).trans HR0.out); obtain ⟨d0, d1, d2, d3, df⟩ := box4 HD1.out; have hbw := hb0.trans (hb1.mono hle1); clear hb1 hb0 H HD0 HR0 hle1)
    go_region_held3 (fun w' => w'.cell? ⟨w.heap.size, 0, none⟩ = some (.slice sa sn sc) ∧ w'.cell? ⟨w.heap.size, 1, none⟩ = some (.slice pa pn pc) ∧ w'.cell? ⟨w.heap.size, 2, none⟩ = some (.int .i64 D.left)) (first | exact ⟨d0, d1, d2⟩ | go_keep) (first | (go_at_call 40; refine (HPF.out _ (by (repeat (first | (with_reducible assumption) | exact Below.refl _ _ | refine Below.setCell ?_ (by first | (simp; done) | (simp; omega) | omega) _ | refine Below.alloc ?_ (by first | (simp; done) | (simp; omega) | omega) _ | refine Below.drew ?_ | refine below_drewN ?_ _)))).mono ?_; rintro e w2 ⟨v, xs, rfl, hown, hel, hb2⟩; clear d0 d1 d2 d3 df; have HD2 := Lib.hid ((hb2.block (w.heap.size) (by first | (simp; done) | (simp; omega) | omega)).trans HD1.out); have HR2 := Lib.hid ((hb2.block (w.heap.size + 1) (by first | (simp; done) | (simp; omega) | omega)).trans HR1.out); obtain ⟨d0, d1, d2, d3, df⟩ := box4 HD2.out; obtain ⟨r0, r1, r2, r3, rf⟩ := box4 HR2.out; obtain ⟨a2, c2, rfl⟩ := own_form hown; have HO2 := Lib.hid hown; have HE2 := Lib.hid hel; clear hown hel HD1 HR1))
    have hb2' : Below w1.heap.size w1 w2 := (below_drewN (Below.refl _ w1) 1).trans hb2
    have HO3 : Hid (w2.ownsRow w1.heap.size 35 1 (.slice a2 (performF D.secs D.pend).length c2) (performF D.secs D.pend).length xs) := HO2.out
    have HE3 : Hid (Elems (eSl eByte) (fun b => (S b ∧ b < w.heap.size) ∧ b < w1.heap.size) w1 xs (performF D.secs D.pend)) := Elems.mono HE2.out fun b hb _ => ⟨hb, rfl⟩
    have hl0 := Lib.hid (performF_length D.secs D.pend)
    clear HO2 HE2 hb2
    obtain ⟨W4, hW4⟩ : ∃ W4, W4 = (((w2.setCell ⟨w.heap.size + 1, 0, none⟩ (.slice a2 (performF D.secs D.pend).length c2)).setCell ⟨w.heap.size + 1, 1, none⟩ (.slice none 0 0)).setCell ⟨w.heap.size + 1, 2, none⟩ (.int .i64 D.left)).setCell ⟨w.heap.size + 1, 3, none⟩ (.bool false) := ⟨_, rfl⟩
    have hb4 : Below w.heap.size w W4 := by
      have hb3 : Below w.heap.size w w2 := hbw.trans (hb2'.mono (by omega))
      rw [hW4]
      (repeat (first | (with_reducible assumption) | exact Below.refl _ _ | refine Below.setCell ?_ (by first | (simp; done) | (simp; omega) | omega) _ | refine Below.alloc ?_ (by first | (simp; done) | (simp; omega) | omega) _ | refine Below.drew ?_ | refine below_drewN ?_ _))
    have h4 := set4 (v0 := .slice a2 (performF D.secs D.pend).length c2) (v1 := .slice none 0 0) (v2 := .int .i64 D.left) (v3 := .bool false) HR2.out
    rw [← hW4] at h4 ⊢
    have H4 := Lib.hid h4.2
    obtain ⟨r0, r1, r2, r3, rf⟩ := box4 h4.1
    clear hW4 h4
    go_wp2
    refine bodyPost_ret (v := .tuple #[.agg #[.slice a2 (performF D.secs D.pend).length c2, .slice none 0 0, .int .i64 (D.left - pn), .bool false], .int .i64 0]) (by simp [results, Try.results23, go_sem, r0, r1, r2, r3]) rfl ?_
    obtain ⟨a3, c3, hv, hs3⟩ := Sl.of_owns (S' := fun b => (S b ∧ b < w.heap.size) ∨ w1.heap.size ≤ b) HO3.out (HE3.out.mono (S' := fun b => (S b ∧ b < w.heap.size) ∨ w1.heap.size ≤ b) fun b hb hlt => ⟨.inl hb.1, hb2'.block b hlt⟩) (by decide) (by have := (HD.out.secs).bytes; rw [hl0.out, hls.out]; exact this) (fun b hb _ => hb) (fun g hg => .inr (HO3.out.lt g hg).1)
    cases hv
    refine RetDisk.of (D := ⟨performF D.secs D.pend, [], D.left - pn, false⟩) (by first | rfl | rw [if_pos (by omega)]) rfl rfl (by (repeat (first | (with_reducible assumption) | exact Below.refl _ _ | refine Below.setCell ?_ (by first | (simp; done) | (simp; omega) | omega) _ | refine Below.alloc ?_ (by first | (simp; done) | (simp; omega) | omega) _ | refine Below.drew ?_ | refine below_drewN ?_ _))) fun hbF => ⟨?_, Sl.zero _ _ _, by show (-9223372036854775808 : Int) ≤ D.left - pn; omega, by show (D.left - pn : Int) ≤ 9223372036854775807; omega⟩
    refine hs3.mono fun k hk hlt => ⟨?_, ?_⟩
    · rcases hk with hk | hk
      · exact .inl hk.1
      · exact .inr (by omega)
    · have k1 : k ≠ w.heap.size + 1 := by rcases hk with hk | hk <;> omega
      first
      | rw [set_other _ _ _ _ _ k1, set_other _ _ _ _ _ k1, set_other _ _ _ _ _ k1, set_other _ _ _ _ _ k1, set_other _ _ _ _ _ k1, H4.out k k1]
      | rw [set_other _ _ _ _ _ k1, set_other _ _ _ _ _ k1, set_other _ _ _ _ _ k1, set_other _ _ _ _ _ k1, H4.out k k1]

end Go.Proofs.Ytckcdokfhdckhaa

/- The walk of disk.Sync where it stops. -/
namespace Go.Proofs.Ytckcdokfhdckhaa
open Go.RowKit Go.Kx

theorem Sl.take_full {α : Type} {E : Enc α} {S : Nat → Prop} {w : World} {a : Option Addr} {n c : Nat} {l : List α} (h : Sl E S w a n c l) (k : Nat) (hk : k ≤ n) : Sl E S w a k k (l.take k) := by
  have hl := h.length
  refine ⟨by rw [List.length_take]; omega, Nat.le_refl _, by have := h.capMax; have := h.cap; omega, Nat.le_trans (Nat.mul_le_mul_right _ hk) h.bytes, fun ha => by have := h.nil ha; have := h.cap; omega, fun i hi => ?_⟩
  have hi' : i < l.length := by rw [List.length_take] at hi; omega
  obtain ⟨b, off, cs, h1, h2, h3, h4, h5, h6⟩ := h.elem i hi'
  exact ⟨b, off, cs, h1, h2, h3, h4, h5, by rw [List.getElem_take]; exact h6⟩

theorem ownsRow_of_block {w w' : World} {base e size n : Nat} {v : Value} {xs : List Value} (h : w.ownsRow base e size v n xs) (hk : ∀ g, v.ownBlock = some g → w'.heap[g]? = w.heap[g]?) : w'.ownsRow base e size v n xs := by
  refine ⟨h.1, ?_⟩
  rcases h.2 with h2 | ⟨g, cap, cur, rfl, h3, h4, h5⟩
  · exact .inl h2
  · exact .inr ⟨g, cap, cur, rfl, h3, (hk g rfl).trans h4, h5⟩

theorem Elems.at1 {S : Nat → Prop} {w : World} {xs : List Value} {l : List Bytes} (h : Elems (eSl eByte) S w xs l) (_ : True = True) (i : Nat) (hi : i < l.length) : ∃ a n c, xs[i]? = some (.slice a n c) ∧ Sl eByte S w a n c l[i] := by
  obtain ⟨a, n, c, h1, h2⟩ := h.elem i hi
  have hx : i < xs.length := by have := h.length; simp [eSl] at this; omega
  refine ⟨a, n, c, ?_, h2⟩
  simp only [eSl, Nat.mul_one] at h1
  rw [List.drop_eq_getElem_cons hx] at h1
  simp only [List.take_succ_cons, List.take_zero, List.cons.injEq, and_true] at h1
  rw [List.getElem?_eq_getElem hx, h1]

theorem ownsRow_heap {w : World} {base e size n g cap : Nat} {xs : List Value} (h : w.ownsRow base e size (.slice (some ⟨g, 0, none⟩) n cap) n xs) :
    ∃ cur, w.heap[g]? = some (.cells cur e (0, 0)) ∧ n ≤ cap ∧ cap ≤ maxLen ∧ cur.size = cap * size ∧ cur.toList.take (n * size) = xs := by
  rcases h.2 with ⟨h', _⟩ | ⟨g', cap', cur, h', _, h1, h2, h3, h4, h5⟩
  · simp at h'
  · cases h'
    exact ⟨cur, h1, h2, h3, h4, h5⟩

theorem box2 {w : World} {b : Nat} {t : TypeId} {v0 v1 : Value} (h : w.heap[b]? = some (.cells #[v0, v1] t (0, 0))) :
    w.cell? ⟨b, 0, none⟩ = some v0 ∧ w.cell? ⟨b, 1, none⟩ = some v1 ∧ (∀ o, w.frozen? ⟨b, o, none⟩ = false) := by
  refine ⟨?_, ?_, ?_⟩ <;> simp [World.cell?, World.frozen?, h]

theorem copy_src2 {S : Nat → Prop} {w : World} {a : Option Addr} {n c : Nat} {b : Bytes} (h : Sl eByte S w a n c b) (m : Nat) (g : Nat) :
    0 < ((b.take m).map byteV).length → (some ⟨g, 0, none⟩ : Option Addr) = some ⟨g, 0, none⟩ ∧ ∃ ad, a = some ad ∧ ∀ j v, ((b.take m).map byteV)[j]? = some v → w.cell? (ad.add j) = some v := by
  intro hpos
  refine ⟨rfl, ?_⟩
  cases hba : a with
  | none => have := h.none_zero hba; have := h.length; simp at hpos; omega
  | some ad =>
    refine ⟨ad, rfl, fun j v hj => Sl.byte_cells h ad hba j v ?_⟩
    rw [List.map_take, List.getElem?_take] at hj
    split at hj
    · exact hj
    · cases hj

theorem elems_bytes_eq {S : Nat → Prop} {w : World} {ys : List Value} {l : Bytes} (h : Elems eByte S w ys l) : ys = l.map byteV := by
  have hl := h.length
  simp only [eByte, Nat.mul_one] at hl
  apply List.ext_getElem (by simpa using hl)
  intro i h1 h2
  have h3 := h.elem i (by omega)
  simp only [eByte, Nat.mul_one] at h3
  rw [List.drop_eq_getElem_cons h1] at h3
  simp only [List.take_succ_cons, List.take_zero, List.cons.injEq, and_true] at h3
  rw [h3]
  simp [byteV]

theorem secs_ok {d : Disk} (h : Disk.ok d = true) : ∀ y ∈ d.secs, y.length = 128 := by
  intro y hy
  have h1 := (Disk.ok_out h).2.2.2.2.2.2
  rw [List.any_eq_false] at h1
  have h2 := h1 y hy
  simp only [badB, Bool.not_eq_true', beq_eq_false_iff_ne, ne_eq, Classical.not_not] at h2
  omega

theorem performF_128 {secs : List Bytes} {l : List Wr} (h : ∀ y ∈ secs, y.length = 128) (hl : ∀ x ∈ l, x.data.length = 128) : ∀ y ∈ performF secs l, y.length = 128 := by
  induction l generalizing secs with
  | nil => exact h
  | cons x r ih =>
    refine ih (secs := secs.set x.at_.toNat x.data) (fun y hy => ?_) (fun x hx => hl x (by simp [hx]))
    rcases List.mem_or_eq_of_mem_set hy with hy | rfl
    · exact h y hy
    · exact hl x (by simp)

set_option maxRecDepth 20000 in
set_option maxHeartbeats 2000000 in
theorem sync_stop (S : Nat → Prop) (w : World) (sa : Option Addr) (sn sc : Nat) (pa : Option Addr) (pn pc : Nat) (D : Disk)
    (h : DiskAt S w sa sn sc pa pn pc D) (hok : (Disk.ok D && !D.stopped) = true) (hgo : 0 ≤ D.left ∧ D.left < (pn : Int)) :
    Calls Try.prog 23 #[.agg #[.slice sa sn sc, .slice pa pn pc, .int .i64 D.left, .bool D.stopped]] w (RetDisk S w (stopsF D, 40)) := by
  have hb0 : Below w.heap.size w ((w.alloc (.cells #[.slice sa sn sc, .slice pa pn pc, .int .i64 D.left, .bool D.stopped] 25)).alloc (.cells #[.slice none 0 0, .slice none 0 0, .int .i64 0, .bool false] 25)) := by (repeat (first | (with_reducible assumption) | exact Below.refl _ _ | refine Below.setCell ?_ (by first | (simp; done) | (simp; omega) | omega) _ | refine Below.alloc ?_ (by first | (simp; done) | (simp; omega) | omega) _ | refine Below.drew ?_ | refine below_drewN ?_ _))
  have hD0 : ((w.alloc (.cells #[.slice sa sn sc, .slice pa pn pc, .int .i64 D.left, .bool D.stopped] 25)).alloc (.cells #[.slice none 0 0, .slice none 0 0, .int .i64 0, .bool false] 25)).heap[w.heap.size]? = some (.cells #[.slice sa sn sc, .slice pa pn pc, .int .i64 D.left, .bool D.stopped] 25 (0, 0)) := by
    rw [Below.heap_alloc _ _ _ (by simp)]; exact heap_alloc_at _ _ _ rfl
  have hR0 : ((w.alloc (.cells #[.slice sa sn sc, .slice pa pn pc, .int .i64 D.left, .bool D.stopped] 25)).alloc (.cells #[.slice none 0 0, .slice none 0 0, .int .i64 0, .bool false] 25)).heap[w.heap.size + 1]? = some (.cells #[.slice none 0 0, .slice none 0 0, .int .i64 0, .bool false] 25 (0, 0)) := heap_alloc_at _ _ _ (by simp)
  have HD0 := Lib.hid hD0
  have HR0 := Lib.hid hR0
  have H := Lib.hid (runs_any S _ sa sn sc pa pn pc D.left D.stopped D.secs D.pend (h.secs.below hb0) (h.pend.below hb0))
  rw [show (Disk.ok { secs := D.secs, pend := D.pend, left := D.left, stopped := D.stopped } && !D.stopped) = true from hok] at H
  have HD := Lib.hid h
  have hls := Lib.hid h.secs.length
  have hlp := Lib.hid h.pend.length
  have hokD : Disk.ok D = true := by simp only [Bool.and_eq_true] at hok; exact hok.1
  have hpn : pn ≤ 4096 := by have := (Disk.ok_out hokD).2.2.1; have := hlp.out; omega
  have hll : D.left ≤ 65536 ∧ -1 ≤ D.left := ⟨(Disk.ok_out hokD).2.2.2.2.1, (Disk.ok_out hokD).2.2.2.1⟩
  obtain ⟨hll1, hll2⟩ := hll
  have hle1 : w.heap.size ≤ ((w.alloc (.cells #[.slice sa sn sc, .slice pa pn pc, .int .i64 D.left, .bool D.stopped] 25)).alloc (.cells #[.slice none 0 0, .slice none 0 0, .int .i64 0, .bool false] 25)).heap.size := by simp; omega
  obtain ⟨lf, hlf⟩ := Int.eq_ofNat_of_zero_le hgo.1
  have hlfp : lf < pn := by omega
  have hlc : lf ≤ pc := by have := h.pend.cap; omega
  have hlfk : lf < D.pend.length := by have := hlp.out; omega
  have hnw : nthW D.pend lf = D.pend[lf] := by simp [nthW, List.getElem?_eq_getElem hlfk]
  have hok2 := pend_ok hokD
  have HPF := Lib.hid (fun (w1 : World) (hb : Below w.heap.size w w1) => perform_any (fun b => S b ∧ b < w.heap.size) w1 sa sn sc pa lf lf D.secs (D.pend.take lf) (h.secs.mono fun b hS hlt => ⟨⟨hS, hlt⟩, hb.block b hlt⟩) ((Sl.take_full h.pend lf (by omega)).mono fun b hS hlt => ⟨⟨hS, hlt⟩, hb.block b hlt⟩)
    (fun i hi => by
      have hi' : i < D.pend.length := by simp at hi; omega
      have := (hok2 i hi').1
      have := hls.out
      simp only [List.getElem_take]
      omega))
  have h128 : ∀ y ∈ performF D.secs (D.pend.take lf), y.length = 128 := performF_128 (secs_ok hokD) fun y hy => by
    obtain ⟨i, hi, rfl⟩ := List.mem_iff_getElem.1 (List.mem_of_mem_take hy)
    exact (hok2 i hi).2
  have H128 := Lib.hid h128
  have hx128 := (hok2 lf hlfk).2
  have hy128 := hx128
  have HX128 := Lib.hid hx128
  have hat := (hok2 lf hlfk).1
  have hst : stopsF D = ⟨(performF D.secs (D.pend.take lf)).set D.pend[lf].at_.toNat (tornF D.pend[lf] ((performF D.secs (D.pend.take lf)).getD D.pend[lf].at_.toNat [])), [], 0, true⟩ := by
    unfold stopsF; rw [hlf, Int.toNat_natCast, hnw]
  have HST := Lib.hid hst
  clear hst h128 hx128 hok2 hnw
  clear h hD0 hR0 hok hokD
  rw [hlf]
  rw [hlf] at H HD0 HR0 hb0 hle1 hgo
  have hg1 : (lf : Int) < pn := hgo.2
  obtain ⟨b, off, oa, n1, c1, rfl, hb, hS, hc0, hc1, hx, hlo, hhi⟩ := Sl.wr HD.out.pend (Below.refl _ w) lf hlfk
  obtain ⟨at', hat'⟩ := Int.eq_ofNat_of_zero_le hat.1
  have hatn : at' < sn := by have := hls.out; omega
  rw [hat'] at hc0
  have hn1 : n1 = 128 := by have := hx.length; rw [hy128] at this; exact this.symm
  subst hn1
  have hinfo8 : (Try.prog.info? 5).map (·.size) = some 1 := by kernel_rfl
  have HAT := Lib.hid hat'
  have HXD := Lib.hid hx
  clear hat hat' hlo hhi hx hgo hlf hy128
  go_enter Try.func23, Try.ntmps23
  go_upto_region 7 with (first | ((with_reducible refine H.out.mono ?_); rintro e w1 ⟨rfl, hb1⟩; have hz : w.heap.size + 1 < w1.heap.size := (by have := hb1.size; simp at this; omega); have HD1 := Lib.hid ((hb1.block (w.heap.size) (by first | (simp; done) | (simp; omega) | omega)).trans HD0.out); have HR1 := Lib.hid ((hb1.block (w.heap.size + 1) (by first | (simp; done) | (simp; omega) | omega)).trans HR0.out); obtain ⟨d0, d1, d2, d3, df⟩ := box4 HD1.out; have hbw := hb0.trans (hb1.mono hle1); clear hb1 hb0 H HD0 HR0 hle1) | (go_at_call 40; refine (HPF.out _ hbw).mono ?_; rintro e w2 ⟨v, xs, rfl, hown, hel, hb2⟩; clear d0 d1 d2 d3 df; have HD2 := Lib.hid ((hb2.block (w.heap.size) (by first | (simp; done) | (simp; omega) | omega)).trans HD1.out); have HR2 := Lib.hid ((hb2.block (w.heap.size + 1) (by first | (simp; done) | (simp; omega) | omega)).trans HR1.out); obtain ⟨d0, d1, d2, d3, df⟩ := box4 HD2.out; obtain ⟨r0, r1, r2, r3, rf⟩ := box4 HR2.out; have hl0 := (performF_length D.secs (D.pend.take lf)).trans hls.out; rw [hl0] at hown; obtain ⟨a2, c2, rfl⟩ := own_form hown; have HO2 := Lib.hid hown; have HE2 := Lib.hid hel; clear hown hel HD1 HR1 hl0; have hbw2 := hbw.trans (hb2.mono (by omega)); have hc0' := (hbw2.cell (p := ⟨b, off + lf * 2, none⟩) hb).trans hc0; have hc1' := (hbw2.cell (p := ⟨b, off + lf * 2 + 1, none⟩) hb).trans hc1))
  have hb2' : Below w.heap.size w w2 := hbw2
  obtain ⟨sn', rfl⟩ : ∃ s, sn = s + 1 := ⟨sn - 1, by omega⟩
  obtain ⟨g, cap, hvv⟩ := ownsRow_succ HO2.out
  cases hvv
  obtain ⟨W4, hW4⟩ : ∃ W4, W4 = (((w2.setCell ⟨w.heap.size + 1, 0, none⟩ (.slice (some ⟨g, 0, none⟩) (sn' + 1) c2)).setCell ⟨w.heap.size + 1, 1, none⟩ (.slice none 0 0)).setCell ⟨w.heap.size + 1, 2, none⟩ (.int .i64 0)).setCell ⟨w.heap.size + 1, 3, none⟩ (.bool true) := ⟨_, rfl⟩
  have hbw4 : Below w.heap.size w W4 := by rw [hW4]; (repeat (first | (with_reducible assumption) | exact Below.refl _ _ | refine Below.setCell ?_ (by first | (simp; done) | (simp; omega) | omega) _ | refine Below.alloc ?_ (by first | (simp; done) | (simp; omega) | omega) _ | refine Below.drew ?_ | refine below_drewN ?_ _))
  have h4 := set4 (v0 := .slice (some ⟨g, 0, none⟩) (sn' + 1) c2) (v1 := .slice none 0 0) (v2 := .int .i64 0) (v3 := .bool true) HR2.out
  have hz4 : W4.heap.size = w2.heap.size := by rw [hW4]; simp [World.setCell]
  rw [← hW4] at h4 ⊢
  clear d0 d1 d2 d3 df r0 r1 r2 r3 rf hc0' hc1'
  obtain ⟨r0, r1, r2, r3, rf⟩ := box4 h4.1
  obtain ⟨d0, d1, d2, d3, df⟩ := box4 ((h4.2 w.heap.size (by omega)).trans HD2.out)
  have HK4 := Lib.hid h4.2
  have HD4 := Lib.hid ((h4.2 w.heap.size (by omega)).trans HD2.out)
  have HR4 := Lib.hid h4.1
  have hc0' := (hbw4.cell (p := ⟨b, off + lf * 2, none⟩) hb).trans hc0
  have hc1' := (hbw4.cell (p := ⟨b, off + lf * 2 + 1, none⟩) hb).trans hc1
  have hgw : w1.heap.size ≤ g := (HO2.out.lt g rfl).1
  have hgl : g < W4.heap.size := by rw [hz4]; exact (HO2.out.lt g rfl).2
  have HO4 : Hid (W4.ownsRow w1.heap.size 35 1 (.slice (some ⟨g, 0, none⟩) (sn' + 1) c2) (sn' + 1) xs) := ownsRow_of_block HO2.out (fun k hk => by cases hk; exact HK4.out g (by omega))
  have hat1 : at' < (performF D.secs (D.pend.take lf)).length := by rw [performF_length, hls.out]; exact hatn
  obtain ⟨q, hq⟩ : ∃ q, q = (performF D.secs (D.pend.take lf))[at'] := ⟨_, rfl⟩
  have hq128 : q.length = 128 := by rw [hq]; exact H128.out _ (List.getElem_mem hat1)
  have HQ := Lib.hid hq
  have HQ128 := Lib.hid hq128
  obtain ⟨oq, nq, cq, hxq, hslq⟩ := Elems.at1 HE2.out rfl at' hat1
  rw [← hq] at hslq
  have hxat : W4.cell? ⟨g, at', none⟩ = some (.slice oq nq cq) := by rw [HO4.out.cellAt at' (by omega), hxq]
  have hg0 : W4.frozen? ⟨g, at', none⟩ = false := HO4.out.frozenAt at'
  have hnq : nq = 128 := by have := hslq.length; omega
  subst hnq
  have HSQ := Lib.hid hslq
  have hbw1 : Below w.heap.size w W4 := hbw4
  clear hW4 h4 hq hq128 hxq hslq HO2 HD2 HR2 HPF
  have hb12 : ∀ k, (S k ∧ k < w.heap.size) ∧ k < w1.heap.size → W4.heap[k]? = w1.heap[k]? := fun k hk => by rw [hbw4.block k hk.1.2, hbw.block k hk.1.2]
  have HB12 := Lib.hid hb12
  have hzz : w.heap.size + 1 < W4.heap.size := by have := hb2.size; omega
  have hzz0 : w.heap.size < W4.heap.size := by omega
  have hzb : b < W4.heap.size := by omega
  have HZ4 := Lib.hid hz4
  clear hb12 hz4
  go_upto_region 9 with (first | (go_at_call 41; refine (cloneY_any (fun b => S b ∧ b < w.heap.size) _ oq 128 cq q (HSQ.out.mono fun k hk hlt => ⟨hk.1, by rw [Below.heap_alloc _ _ _ (by have := hk.1.2; have := hbw4.size; omega)]; exact HB12.out k hk⟩)).mono ?_; rintro e w5 ⟨v5, ys, rfl, hown5, hel5, hb5⟩; rw [HQ128.out] at hown5; clear d0 d1 d2 d3 df r0 r1 r2 r3 rf; have HO5 := Lib.hid hown5; have HE5 := Lib.hid hel5; clear hown5 hel5; obtain ⟨g5, cap5, hv5⟩ := ownsRow_succ HO5.out; cases hv5; have hz5 := hb5.size; have B6 := Lib.hid ((hb5.block W4.heap.size (by simp)).trans (World.alloc_heap_new W4 _)); have HD5 := Lib.hid ((hb5.block (w.heap.size) (by simp; omega)).trans ((Below.heap_alloc _ _ _ hzz0).trans HD4.out)); have HR5 := Lib.hid ((hb5.block (w.heap.size + 1) (by simp; omega)).trans ((Below.heap_alloc _ _ _ hzz).trans HR4.out)); obtain ⟨b0, b1, bf⟩ := box2 B6.out))
  obtain ⟨cur, hcur, hcap5, hcm5, hcs5, htk5⟩ := ownsRow_heap HO5.out
  have HCU := Lib.hid hcur
  have HTK := Lib.hid (show cur.toList.take 128 = ys by simpa [eByte] using htk5)
  have HCS := Lib.hid (show cur.size = cap5 by simpa [eByte] using hcs5)
  clear hcur htk5 hcs5
  have hc64 : (64 : Int) ≤ (cap5 : Int) := by omega
  go_still_tail 4, (by kernel_rfl)
  change wpList _ _ _ _ _ w5.drew
  obtain ⟨w6, hw6⟩ : ∃ w6, w6 = w5.drew := ⟨_, rfl⟩
  rw [← hw6]
  have hb6 : Below (W4.alloc (.cells #[.int .i64 at', .slice oa 128 c1] 54)).heap.size (W4.alloc (.cells #[.int .i64 at', .slice oa 128 c1] 54)) w6 := by rw [hw6]; exact hb5.drew
  have hcur6 : w6.heap[g5]? = some (.cells cur.toList.toArray 5 (0, 0)) := by rw [hw6]; show w5.heap[g5]? = _; simpa using HCU.out
  have hg5 : W4.heap.size + 1 ≤ g5 := by have := (HO5.out.lt g5 rfl).1; simpa using this
  clear hw6
  have hbw6 : Below w.heap.size w w6 := by
    refine (hbw4.alloc hbw4.size _).trans (hb6.mono (by simp; omega))
  refine wpList_copy_splice rfl (.tmp 50) (.tmp 52) 35 35 rfl 5 Try.underlying35 hinfo8 (some ⟨g5, 0, none⟩) oa 64 cap5 128 c1 rfl rfl g5 0 cur.toList 5 hcur6 ((D.pend[lf].data.take 64).map byteV) (by rw [List.length_map, List.length_take, HX128.out]; rfl) (copy_src2 (HXD.out.below hbw6) 64 _) (by rw [List.length_map, List.length_take, HX128.out, Array.length_toList, HCS.out]; simp; omega) (byteV_one _) (W4.heap.size + 1) w6 (Below.refl _ _) hg5 ?_
  intro w7 hd7 hb7
  have hS6 := hb6.size
  have hzw : W4.heap.size + 1 ≤ w6.heap.size := by simpa using hS6
  have hb67 : Below (W4.heap.size + 1) (W4.alloc (.cells #[.int .i64 at', .slice oa 128 c1] 54)) w7 := (by simpa using hb6 : Below (W4.heap.size + 1) (W4.alloc (.cells #[.int .i64 at', .slice oa 128 c1] 54)) w6).trans hb7
  have hbw7 : Below w.heap.size w w7 := (hbw4.alloc hbw4.size _).trans (hb67.mono (by omega))
  have hkeep : ∀ k, k < W4.heap.size → w7.heap[k]? = W4.heap[k]? := fun k hk => (hb67.block k (by omega)).trans (Below.heap_alloc _ _ _ hk)
  obtain ⟨b0, b1, bf⟩ := box2 ((hb67.block W4.heap.size (by omega)).trans (World.alloc_heap_new W4 _))
  obtain ⟨r0, r1, r2, r3, rf⟩ := box4 ((hkeep _ hzz).trans HR4.out)
  have HO7 : Hid (w7.ownsRow w1.heap.size 35 1 (.slice (some ⟨g, 0, none⟩) (sn' + 1) c2) (sn' + 1) xs) := ownsRow_of_block HO4.out (fun k hk => by cases hk; exact hkeep g hgl)
  have hx7 : w7.cell? ⟨g, at', none⟩ = some (.slice oq 128 cq) := (World.cell?_of_block (w := W4) (hkeep g hgl)).trans hxat
  have hf7 : w7.frozen? ⟨g, at', none⟩ = false := HO7.out.frozenAt at'
  have n1 : g ≠ w.heap.size := by omega
  have n2 : g ≠ w.heap.size + 1 := by omega
  have n1' : w.heap.size + 1 ≠ g := by omega
  have n3 : W4.heap.size ≠ g := by omega
  have HK7 := Lib.hid hkeep
  clear hkeep hxat hg0 hcur6 hS6 hb6 hb7 hb5
  go_wp2
  refine bodyPost_ret (v := .tuple #[.agg #[.slice (some ⟨g, 0, none⟩) (sn' + 1) c2, .slice none 0 0, .int .i64 0, .bool true], .int .i64 40]) (by simp [results, Try.results23, go_sem, r0, r1, r2, r3]) rfl ?_
  have hys := elems_bytes_eq HE5.out
  have hspl : (splice cur.toList 0 ((D.pend[lf].data.take 64).map byteV)).take 128 = (tornF D.pend[lf] q).map byteV := by
    have hl64 : ((D.pend[lf].data.take 64).map byteV).length = 64 := by rw [List.length_map, List.length_take, HX128.out]; rfl
    have htk : cur.toList.take 128 = q.map byteV := by have := HTK.out; rw [hys] at this; exact this
    unfold splice tornF
    rw [List.take_zero, List.nil_append, Nat.zero_add, hl64, List.take_append, hl64, List.map_append, List.map_drop, ← htk, List.drop_take, List.take_of_length_le (by omega)]
  have hotorn : w7.ownsRow (W4.heap.size + 1) 5 1 (.slice (some ⟨g5, 0, none⟩) 128 cap5) 128 ((tornF D.pend[lf] q).map byteV) := by
    refine ⟨by rw [List.length_map]; simp [tornF, HX128.out, HQ128.out], .inr ⟨g5, cap5, _, rfl, hg5, hd7.out, hcap5, hcm5, ?_, by simpa using hspl⟩⟩
    have h1 := HCS.out
    simp [splice, HX128.out]
    omega
  obtain ⟨a9, c9, hv9, hs9⟩ := Sl.of_owns (S' := fun b => W4.heap.size + 1 ≤ b) hotorn (elems_bytes (S := fun _ => False) (tornF D.pend[lf] q)) (by decide) (by simp [eByte]) (fun b hb _ => hb.elim) (fun k hk => (hotorn.lt k hk).1)
  cases hv9
  have hzw1 : w1.heap.size ≤ W4.heap.size := by have := HZ4.out; have := hb2.size; omega
  have hgg5 : g5 ≠ g := by omega
  have hel : Elems (eSl eByte) (fun b => (S b ∧ b < w.heap.size) ∨ w1.heap.size ≤ b) (w7.setCell ⟨g, at', none⟩ (.slice (some ⟨g5, 0, none⟩) 128 cap5)) (xs.set at' (.slice (some ⟨g5, 0, none⟩) 128 cap5)) ((performF D.secs (D.pend.take lf)).set at' (tornF D.pend[lf] q)) := by
    refine Elems.set (HE2.out.mono fun k hk hlt => ⟨.inl hk.1, ?_⟩) rfl at' ⟨_, _, _, rfl, hs9.mono fun k hk hlt => ⟨.inr (by omega), set_other _ _ _ _ _ (by omega)⟩⟩
    rw [set_other _ _ _ _ _ (by omega), HK7.out k (by omega)]
    exact HB12.out k hk
  have hl8 : ((performF D.secs (D.pend.take lf)).set at' (tornF D.pend[lf] q)).length = sn' + 1 := by rw [List.length_set, performF_length, hls.out]
  have hO8 := (HO7.out.stored at' (.slice (some ⟨g5, 0, none⟩) 128 cap5)).1
  obtain ⟨a8, c8, hv8, hs8⟩ := Sl.of_owns (S' := fun b => (S b ∧ b < w.heap.size) ∨ w1.heap.size ≤ b) hO8 hel (by decide) (by have := HD.out.secs.bytes; exact this) (fun b hb _ => hb) (fun k hk => .inr (hO8.lt k hk).1)
  cases hv8
  refine RetDisk.of (D := stopsF D) rfl ?_ ?_ (by (repeat (first | (with_reducible assumption) | exact Below.refl _ _ | refine Below.setCell ?_ (by first | (simp; done) | (simp; omega) | omega) _ | refine Below.alloc ?_ (by first | (simp; done) | (simp; omega) | omega) _ | refine Below.drew ?_ | refine below_drewN ?_ _))) fun hbF => ?_
  · rw [HST.out]
  · rw [HST.out]
  · rw [HST.out]
    refine ⟨?_, Sl.zero _ _ _, by show (-9223372036854775808 : Int) ≤ 0; decide, by show (0 : Int) ≤ 9223372036854775807; decide⟩
    show Sl _ _ _ _ _ _ ((performF D.secs (D.pend.take lf)).set D.pend[lf].at_.toNat (tornF D.pend[lf] ((performF D.secs (D.pend.take lf)).getD D.pend[lf].at_.toNat [])))
    rw [HAT.out, Int.toNat_natCast, List.getD_eq_getElem?_getD, List.getElem?_eq_getElem hat1, Option.getD_some, ← HQ.out]
    refine hs8.mono fun k hk hlt => ⟨?_, ?_⟩
    · rcases hk with hk | hk
      · exact .inl hk.1
      · exact .inr (by omega)
    · have k1 : k ≠ w.heap.size + 1 := by rcases hk with hk | hk <;> omega
      rw [set_other _ _ _ _ _ k1, set_other _ _ _ _ _ k1, set_other _ _ _ _ _ k1, set_other _ _ _ _ _ k1]

end Go.Proofs.Ytckcdokfhdckhaa

/- The walk of disk.Sync, whole. -/
namespace Go.Proofs.Ytckcdokfhdckhaa
open Go.RowKit Go.Kx

set_option maxHeartbeats 1000000 in
theorem sync_any (S : Nat → Prop) (w : World) (sa : Option Addr) (sn sc : Nat) (pa : Option Addr) (pn pc : Nat) (D : Disk) (h : DiskAt S w sa sn sc pa pn pc D) :
    Calls Try.prog 23 #[.agg #[.slice sa sn sc, .slice pa pn pc, .int .i64 D.left, .bool D.stopped]] w (RetDisk S w (syncF D)) := by
  have hlp := h.pend.length
  cases hok : Disk.ok D && !D.stopped with
  | true =>
    by_cases hst : 0 ≤ D.left ∧ D.left < (pn : Int)
    · have e : syncF D = (stopsF D, 40) := by unfold syncF; rw [if_pos hok, if_pos (by rw [hlp]; exact hst)]
      rw [e]
      exact sync_stop S w sa sn sc pa pn pc D h hok hst
    · have e : syncF D = (⟨performF D.secs D.pend, [], if 0 ≤ D.left then D.left - pn else D.left, false⟩, 0) := by unfold syncF; rw [if_pos hok, if_neg (by rw [hlp]; exact hst), hlp]
      rw [e]
      exact sync_go S w sa sn sc pa pn pc D h hok (by omega)
  | false =>
    have e : syncF D = (zeroDisk, 40) := by unfold syncF; rw [if_neg (by simp [hok])]
    have HE := Lib.hid e
    have hb0 : Below w.heap.size w ((w.alloc (.cells #[.slice sa sn sc, .slice pa pn pc, .int .i64 D.left, .bool D.stopped] 25)).alloc (.cells #[.slice none 0 0, .slice none 0 0, .int .i64 0, .bool false] 25)) := by (repeat (first | (with_reducible assumption) | exact Below.refl _ _ | refine Below.setCell ?_ (by first | (simp; done) | (simp; omega) | omega) _ | refine Below.alloc ?_ (by first | (simp; done) | (simp; omega) | omega) _ | refine Below.drew ?_ | refine below_drewN ?_ _))
    have hR0 : ((w.alloc (.cells #[.slice sa sn sc, .slice pa pn pc, .int .i64 D.left, .bool D.stopped] 25)).alloc (.cells #[.slice none 0 0, .slice none 0 0, .int .i64 0, .bool false] 25)).heap[w.heap.size + 1]? = some (.cells #[.slice none 0 0, .slice none 0 0, .int .i64 0, .bool false] 25 (0, 0)) := heap_alloc_at _ _ _ (by simp)
    have HR0 := Lib.hid hR0
    have H := Lib.hid (runs_any S _ sa sn sc pa pn pc D.left D.stopped D.secs D.pend (h.secs.below hb0) (h.pend.below hb0))
    rw [show (Disk.ok { secs := D.secs, pend := D.pend, left := D.left, stopped := D.stopped } && !D.stopped) = false from hok] at H
    clear h hlp hok e hR0
    go_enter Try.func23, Try.ntmps23
    go_wp2_with ((with_reducible refine H.out.mono ?_); rintro e w1 ⟨rfl, hb1⟩; have hz : w.heap.size + 1 < w1.heap.size := (by have := hb1.size; simp at this; omega); obtain ⟨r0, r1, r2, r3, rf⟩ := box4 ((hb1.block (w.heap.size + 1) (by first | (simp; done) | (simp; omega) | omega)).trans HR0.out))
    have hb2 := hb0.trans (hb1.mono (by simp; omega))
    refine bodyPost_ret (v := .tuple #[.agg #[.slice none 0 0, .slice none 0 0, .int .i64 0, .bool false], .int .i64 40]) (by simp [results, Try.results23, go_sem, r0, r1, r2, r3]) rfl ?_
    exact RetDisk.zero HE.out (by (repeat (first | (with_reducible assumption) | exact Below.refl _ _ | refine Below.setCell ?_ (by first | (simp; done) | (simp; omega) | omega) _ | refine Below.alloc ?_ (by first | (simp; done) | (simp; omega) | omega) _ | refine Below.drew ?_ | refine below_drewN ?_ _)))

end Go.Proofs.Ytckcdokfhdckhaa
