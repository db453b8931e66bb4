/- What the listed table gives: the cells of block 0. -/
import Derived.Test.YtoikbcalhoelgaaDoorKinds
import Derived.ProofKit
import Derived.LaidMore
import Derived.OpenShut
import Derived.Stop.Joined
namespace Go.Proofs.YtoikbcalhoelgaaDoor
open Go.ChangeShapes Go.WideShapes Go.ChangeAt Go.WideMaps Go.WideElems Go.RowKit

theorem gShapes : Tryd.prog.globalNamed "cistern/codec.shapes" = some 0 := by kernel_rfl
theorem tShapes : (Tryd.prog.globals[0]?).map (·.type) = some 34 := by kernel_rfl
theorem c27 : Tryd.prog.cellsOf 27 = 4 := by kernel_rfl
theorem c34 : Tryd.prog.cellsOf 34 = 36 := by kernel_rfl
theorem c3 : Tryd.prog.cellsOf 3 = 1 := by kernel_rfl
theorem c4 : Tryd.prog.cellsOf 4 = 1 := by kernel_rfl
theorem c9 : Tryd.prog.cellsOf 9 = 1 := by kernel_rfl

theorem shape_of_trod {H : Type} {enc : TypeId × Value → H} {w : World} {base : Nat} {sp : Nat → Bool} {held : Bool} {fuel : Nat} {cs : List Value} {a b : Int} {s : List UInt8} {t : Bool} {p : List MemPlace}
    (h : DataW.trod enc Tryd.prog w base sp held fuel 27 cs = some (.agg [.lit (.int .i64 a), .lit (.int .i64 b), .lit (.string s), .lit (.bool t)], p)) : cs = [.int .i64 a, .int .i64 b, .string ⟨s.toArray⟩, .bool t] := by
  obtain ⟨xs, n, rfl, hx, hl, hn, hf⟩ := DataW.trod_struct Tryd.underlying27 h
  rw [c27] at hl
  match cs, hl with
  | [v0, v1, v2, v3], _ =>
    have h0 := hf 0 { name := "typ", type := 3, offset := 0, embedded := false, tag := "", pkgPath := "cistern/codec", byteOffset := 0 } rfl
    have h1 := hf 1 { name := "kind", type := 3, offset := 1, embedded := false, tag := "", pkgPath := "cistern/codec", byteOffset := 8 } rfl
    have h2 := hf 2 { name := "encoding", type := 9, offset := 2, embedded := false, tag := "", pkgPath := "cistern/codec", byteOffset := 16 } rfl
    have h3 := hf 3 { name := "blob", type := 4, offset := 3, embedded := false, tag := "", pkgPath := "cistern/codec", byteOffset := 32 } rfl
    dsimp only at h0 h1 h2 h3
    rw [c3] at h0 h1
    rw [c9] at h2
    rw [c4] at h3
    simp only [List.drop_zero, List.drop_succ_cons, List.take_succ_cons, List.take_zero] at h0 h1 h2 h3
    match xs, hn with
    | [x0, x1, x2, x3], _ =>
      simp only [List.getElem?_cons_zero, List.getElem?_cons_succ] at h0 h1 h2 h3
      obtain ⟨n0, e0, rfl, _⟩ := DataW.trod_int Tryd.underlying3 h0
      obtain ⟨n1, e1, rfl, _⟩ := DataW.trod_int Tryd.underlying3 h1
      obtain ⟨s2, e2, rfl, _⟩ := DataW.trod_string Tryd.underlying9 h2
      obtain ⟨b3, e3, rfl⟩ := DataW.trod_bool Tryd.underlying4 h3
      simp at hx e0 e1 e2 e3
      obtain ⟨⟨rfl, rfl, rfl, rfl⟩, _⟩ := hx
      simp [e0, e1, e2, e3]

theorem of_laid {W : World} (h : laidMetH Tryd.prog [("cistern/codec.shapes", Rows.laid_cistern_codec_shapes)] W) : ∃ t fr, W.heap[0]? = some (.cells shapeCells t fr) := by
  rw [MakeChecks.laidMetH_plain _ _ _ (by kernel_rfl)] at h
  obtain ⟨ps, ⟨g, t, cs, f, p, q, hg, ht, hv, hd, _, _⟩, _, _⟩ := h
  obtain rfl := Option.some.inj (gShapes.symm.trans hg)
  obtain rfl := Option.some.inj (tShapes.symm.trans ht)
  obtain ⟨xs, m, rfl, hx, hl, hn, hel⟩ := DataW.trod_array Tryd.underlying34 hd
  rw [c34] at hl
  have key : ∀ i (a b : Int) (s : List UInt8) (t : Bool), i < 9 → (xs.map (·.1))[i]? = some (.agg [.lit (.int .i64 a), .lit (.int .i64 b), .lit (.string s), .lit (.bool t)]) → (cs.toList.drop (i * 4)).take 4 = [.int .i64 a, .int .i64 b, .string ⟨s.toArray⟩, .bool t] := by
    intro i a b s t hi hxi
    have h1 := hel i hi
    rw [c27] at h1
    rw [List.getElem?_map] at hxi
    cases hy : xs[i]? with
    | none => simp [hy] at hxi
    | some y =>
      obtain ⟨y1, y2⟩ := y
      simp [hy] at hxi
      subst hxi
      rw [hy] at h1
      exact shape_of_trod h1
  have hx' := (Prod.mk.inj hx).1
  simp only [Rows.laid_cistern_codec_shapes, DataW.agg.injEq] at hx'
  rw [← hx'] at key
  have k0 := key 0 _ _ _ _ (by decide) rfl
  have k1 := key 1 _ _ _ _ (by decide) rfl
  have k2 := key 2 _ _ _ _ (by decide) rfl
  have k3 := key 3 _ _ _ _ (by decide) rfl
  have k4 := key 4 _ _ _ _ (by decide) rfl
  have k5 := key 5 _ _ _ _ (by decide) rfl
  have k6 := key 6 _ _ _ _ (by decide) rfl
  have k7 := key 7 _ _ _ _ (by decide) rfl
  have k8 := key 8 _ _ _ _ (by decide) rfl
  have hcs : cs.toList = shapeCells.toList := by
    have e : cs.toList = (cs.toList.drop (0 * 4)).take 4 ++ ((cs.toList.drop (1 * 4)).take 4 ++ ((cs.toList.drop (2 * 4)).take 4 ++ ((cs.toList.drop (3 * 4)).take 4 ++ ((cs.toList.drop (4 * 4)).take 4 ++ ((cs.toList.drop (5 * 4)).take 4 ++ ((cs.toList.drop (6 * 4)).take 4 ++ ((cs.toList.drop (7 * 4)).take 4 ++ (cs.toList.drop (8 * 4)).take 4))))))) := by
      have st : ∀ (l : List Value) (i : Nat), l.drop (i * 4) = (l.drop (i * 4)).take 4 ++ l.drop ((i + 1) * 4) := fun l i => by
        rw [show (i + 1) * 4 = i * 4 + 4 by omega, ← List.drop_drop, List.take_append_drop]
      have e9 : cs.toList.drop ((8 + 1) * 4) = [] := List.drop_eq_nil_of_le (by omega)
      rw [← List.append_nil ((cs.toList.drop (8 * 4)).take 4), ← e9, ← st, ← st, ← st, ← st, ← st, ← st, ← st, ← st, ← st]
      simp
    rw [e, k0, k1, k2, k3, k4, k5, k6, k7, k8]
    rfl
  have hcs' : cs = shapeCells := by
    obtain ⟨l⟩ := cs
    have : l = shapeCells.toList := hcs
    subst this
    rfl
  subst hcs'
  unfold World.var? at hv
  rw [gShapes] at hv
  simp only [Option.bind_some] at hv
  split at hv
  · rename_i cs t fr hh
    cases hv
    exact ⟨t, fr, hh⟩
  · cases hv
end Go.Proofs.YtoikbcalhoelgaaDoor
