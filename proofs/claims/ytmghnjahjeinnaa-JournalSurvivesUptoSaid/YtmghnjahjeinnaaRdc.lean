/- Crashes and bytes as arguments of bounded bulk. -/
import Derived.Test.YtmghnjahjeinnaaJour7
import Derived.Test.YtmghnjahjeinnaaFw
namespace Go.Proofs.Ytmghnjahjeinnaa
open Go Go.RowKit Go.Kx Go.Fr Go.ChangeShapes Go.WideShapes

theorem arg_u8 {W : World} {v : Value} (h : ArgIn Try.prog W 5 v) : ∃ b : UInt8, v = .int .u8 b.toNat := by
  obtain ⟨n, rfl, h1, h2⟩ := h.int Try.underlying5
  have hw' : (0 : Int) ≤ n ∧ n ≤ 255 := by rw [show IntKind.u8.min = 0 from rfl] at h1; rw [show IntKind.u8.max = 255 from rfl] at h2; exact ⟨h1, h2⟩
  refine ⟨UInt8.ofNat n.toNat, ?_⟩
  rw [UInt8.toNat_ofNat']
  congr 1
  omega

/-- podiumlaw05.Crash -/
structure Cr where
  recs : List (List UInt8)
  stop : Bool
  left : UInt8
def eCr : Enc Cr where
  size := 3
  bytes := 32
  rel S w cs x := ∃ oa n c, cs = [.slice oa n c, .bool x.stop, .int .u8 x.left.toNat] ∧ Sl (eSl eByte) S w oa n c x.recs
  len h := by obtain ⟨_, _, _, rfl, _⟩ := h; rfl
  mono h hk := by
    obtain ⟨oa, n, c, rfl, h⟩ := h
    exact ⟨oa, n, c, rfl, h.mono hk⟩
def crV (x : Cr) : List SP := [isl (eSl eByte) x.recs, exB x.stop, exI .u8 x.left.toNat]
instance fits_cr : Fits eCr crV where
  out {F w cs a} h := by
    obtain ⟨oa, n, c, rfl, h⟩ := h
    exact .cons ⟨oa, n, c, rfl, h⟩ (.cons rfl (.cons rfl .nil))
  inn {F w cs a} h := by
    obtain ⟨v0, h0, q0⟩ := h.at_ 0 _ rfl
    obtain ⟨v1, h1, q1⟩ := h.at_ 1 _ rfl
    obtain ⟨v2, h2, q2⟩ := h.at_ 2 _ rfl
    have hl : cs.length = 3 := h.len
    match cs, hl with
    | [u0, u1, u2], _ =>
      cases h0; cases h1; cases h2
      obtain ⟨oa, n, c, rfl, hs⟩ := q0
      have e1 : v1 = .bool a.stop := q1
      have e2 : v2 = .int .u8 (a.left.toNat : Int) := q2
      subst e1 e2
      exact ⟨oa, n, c, rfl, hs⟩

set_option maxRecDepth 100000 in
theorem rdCrW : ReadsW Try.prog 55 eCr (fun c => manyF c.recs) := by
  intro H enc w fuel cs x h hw
  obtain ⟨hl, l, ⟨oa, n, c, h0, h0'⟩, hwt⟩ := readsW_field Try.underlying55 h hw 0 _ rfl rdRowsW
  obtain ⟨b1, h1⟩ := (reads_field Try.underlying55 h hw 1 _ rfl (reads_bool Try.underlying4)).2
  obtain ⟨b2, h2⟩ := (reads_field Try.underlying55 h hw 2 _ rfl (reads_byte Try.underlying5)).2
  have hl3 : cs.length = 3 := (reads_field Try.underlying55 h hw 1 _ rfl (reads_bool Try.underlying4)).1
  rw [wt_many] at hwt
  match cs, hl3 with
  | [u0, u1, u2], _ =>
    have e0 : [u0] = [.slice oa n c] := h0
    have e1 : [u1] = [.bool b1] := h1
    have e2 : [u2] = [.int .u8 b2.toNat] := h2
    simp only [List.cons.injEq, and_true] at e0 e1 e2
    subst e0 e1 e2
    exact ⟨⟨l, b1, b2⟩, ⟨oa, n, c, rfl, h0'⟩, by dsimp only; omega⟩
theorem rdScriptW : ReadsW Try.prog 53 (eSl eCr) (fun l => (l.map fun c => manyF c.recs).sum + 1) := readsW_slice Try.underlying53 (by kernel_rfl) (by decide) (by kernel_rfl) rdCrW
theorem sum_mem {l : List Nat} {a : Nat} (h : a ∈ l) : a ≤ l.sum := by
  induction l with
  | nil => cases h
  | cons x r ih =>
    rw [List.sum_cons]
    rcases List.mem_cons.1 h with rfl | h
    · omega
    · have := ih h; omega
theorem arg_scriptU {W : World} {v : Value} (h : ArgU Try.prog W 53 v) : ∃ a n c l, v = .slice a n c ∧ Sl eCr (fun _ => True) W a n c l ∧ ∀ x ∈ l, SmallR x.recs := by
  obtain ⟨a, n, c, l, h1, h2, h3⟩ := h.slice Try.underlying53 rdScriptW
  refine ⟨a, n, c, l, h1, h2, fun x hx => ⟨?_⟩⟩
  have := sum_mem (List.mem_map_of_mem (f := fun c => manyF c.recs) hx)
  omega

theorem WT_indexC {C : Cx} {S : (Nat → Prop) → World → World → Prop} {env : Env} {loc : List Ent} {dst : Option Tmp} {ty : TypeId} {pos : String} {af : Array Edge} {g : Option (Nat × Bool)} {l : List Cr} {t e : TypeId} {x y : Operand} {k : IntKind} {m : Int} {i bt : Nat} {z : Value} (hx : ev env x = some (isl eCr l)) (hy : ev env y = some (exI k m)) [hm : Nt m i] (ht : C.P.underlying t = some (.slice e)) [hT : TI C.P e 3 bt z] (hl : i < l.length := by first | omega | (simp; done) | (simp; omega)) :
    WT C S ⟨dst, .indexAddr t x y, ty, pos, af, g⟩ (fp [isl (eSl eByte) l[i].recs, exB l[i].stop, exI .u8 l[i].left.toNat]) env loc := WT_index (fs := crV) hx hy ht hl

end Go.Proofs.Ytmghnjahjeinnaa
