/- The walks of codec.shapeOf and codec.Kind over the table 'shapes'. -/
import Derived.Test.YtoikbcalhoelgaaDoorRows
import Derived.WalkKit
import Derived.WalkSpells
import Derived.WalkLawsBesides
import Derived.Deep.LoopGhost
import Derived.Lib.Hide
namespace Go.Proofs.YtoikbcalhoelgaaDoor
open Go.RowKit

def sH : ByteArray := ⟨#[104, 97, 115, 104, 116, 97, 98, 108, 101]⟩
def sS : ByteArray := ⟨#[115, 107, 105, 112, 108, 105, 115, 116]⟩
def sI : ByteArray := ⟨#[105, 110, 116, 115, 101, 116]⟩
def sL : ByteArray := ⟨#[108, 105, 115, 116, 112, 97, 99, 107]⟩
def sE : ByteArray := ⟨#[]⟩
def shp (a b : Int) (s : ByteArray) (t : Bool) : Array Value := #[.int .i64 a, .int .i64 b, .string s, .bool t]
def shapeCells : Array Value := #[.int .i64 0, .int .i64 1, .string sE, .bool false, .int .i64 2, .int .i64 3, .string sH, .bool false, .int .i64 3, .int .i64 4, .string sS, .bool false, .int .i64 4, .int .i64 5, .string sH, .bool false, .int .i64 11, .int .i64 3, .string sI, .bool true, .int .i64 16, .int .i64 5, .string sL, .bool true, .int .i64 17, .int .i64 4, .string sL, .bool true, .int .i64 18, .int .i64 2, .string sE, .bool false, .int .i64 20, .int .i64 3, .string sL, .bool true]
def shapeTab : List (Int × Int × ByteArray × Bool) := [(0, 1, sE, false), (2, 3, sH, false), (3, 4, sS, false), (4, 5, sH, false), (11, 3, sI, true), (16, 5, sL, true), (17, 4, sL, true), (18, 2, sE, false), (20, 3, sL, true)]
def shapeV (typ : Int) : Value := match shapeTab.find? (fun x => x.1 == typ) with
  | some (a, b, s, t) => .tuple #[.agg (shp a b s t), .bool true]
  | none => .tuple #[.agg (shp 0 0 sE false), .bool false]
theorem cells34 : (Tryd.prog.info? 34).map (·.size) = some shapeCells.size := by kernel_rfl


def notIn (k : Nat) (typ : Int) : Prop := ∀ x ∈ shapeTab.take k, x.1 ≠ typ
theorem notIn_step (k : Nat) (typ : Int) (h : notIn k typ) {x : Int × Int × ByteArray × Bool} (hx : shapeTab[k]? = some x) (hne : x.1 ≠ typ) : notIn (k + 1) typ := by
  intro y hy
  rw [List.take_add_one, hx] at hy
  rcases List.mem_append.1 hy with hy | hy
  · exact h y hy
  · simp at hy; subst hy; exact hne
def shpZ : Obj := .cells #[.int .i64 0, .int .i64 0, .string ⟨#[]⟩, .bool false] 27

theorem results_cell_tmp {P : Program} {fn : Func} {p q : Tmp} {ty : TypeId} (h : fn.results = #[.cell p ty, .tmp q]) (tmps : Array Value) (w : World) (g : Nat) (t : TypeId) (cs : Array Value) (fr : Nat × Nat) (d : TypeDesc) (v : Value)
    (hp : tmps.getD p undef = .pointer (some ⟨g, 0, none⟩)) (hq : tmps.getD q undef = v) (hg : w.heap[g]? = some (.cells cs t fr))
    (hu : P.underlying ty = some d) (hd : (match d with | .struct _ | .array _ _ => true | _ => false) = true) (hi : (P.info? ty).map (·.size) = some cs.size) :
    (results fn tmps).run P w = .ok (.tuple #[.agg cs, v]) w := by
  have hp' : tmps[p]?.getD undef = .pointer (some ⟨g, 0, none⟩) := by simpa using hp
  have hq' : tmps[q]?.getD undef = v := by simpa using hq
  simp [results, h, hp', hq', asAddr, run_loadVar_row w g t ty cs fr d hg hu hd hi]
theorem info27 : (Tryd.prog.info? 27).map (·.size) = some 4 := by kernel_rfl
theorem set4 {w : World} {g : Nat} {t : TypeId} {a b c d a' b' c' d' : Value} (hg : w.heap[g]? = some (.cells #[a, b, c, d] t (0, 0))) :
    ((((w.setCell ⟨g, 0, none⟩ a').setCell ⟨g, 1, none⟩ b').setCell ⟨g, 2, none⟩ c').setCell ⟨g, 3, none⟩ d').heap[g]? = some (.cells #[a', b', c', d'] t (0, 0)) :=
  heap_setCell_same _ g 3 _ t d' (heap_setCell_same _ g 2 _ t c' (heap_setCell_same _ g 1 _ t b' (heap_setCell_same _ g 0 _ t a' hg)))

set_option maxRecDepth 100000 in
set_option maxHeartbeats 1000000 in
theorem shapeOf_any (typ : Int) (w : World) (t : TypeId) (fr : Nat × Nat) (hg : w.heap[0]? = some (.cells shapeCells t fr)) :
    Calls Tryd.prog 7 #[.int .i64 typ] w fun e w' => e = .returned (shapeV typ) ∧ Below w.heap.size w w' := by
  have i0 : ∀ w : World, (Instr.index 34 (.agg shapeCells) (.int .i64 0)).run Tryd.prog w = .ok (.agg (shp 0 1 sE false)) w := fun _ => by kernel_rfl
  have hlt : 0 < w.heap.size := (Array.getElem?_eq_some_iff.1 hg).1
  go_enter Tryd.func7, Tryd.ntmps7
  go_wp2_with (refine wpList_load_row rfl 34 _ rfl 0 rfl t shapeCells fr _ (by rw [heap_alloc_old _ _ hlt]; exact hg) Tryd.underlying34 rfl cells34 ?_)
  go_loopw [7] (fun i wr => ∃ k : Int, 0 ≤ k ∧ k ≤ 9 ∧ i = .int .i64 k ∧ notIn k.toNat typ ∧ wr.heap[w.heap.size]? = some shpZ ∧ Below w.heap.size w wr) (fun i _ => 9 - (intOf i).toNat)
  case atStart => exact ⟨0, by omega, by omega, rfl, by simp [notIn], heap_alloc_new w _, (Below.refl _ _).alloc (Nat.le_refl _) _⟩
  case round =>
    obtain ⟨k, hk0, hk, rfl, hn, hz, hb⟩ := hrel
    have hk5 : k = 0 ∨ k = 1 ∨ k = 2 ∨ k = 3 ∨ k = 4 ∨ k = 5 ∨ k = 6 ∨ k = 7 ∨ k = 8 ∨ k = 9 := by omega
    clear hg i0 hlt hk hk0
    have hs : w.heap.size < wr.heap.size := (Array.getElem?_eq_some_iff.1 hz).1
    have c0 : wr.cell? ⟨w.heap.size, 0, none⟩ = some (.int .i64 0) := by simp [World.cell?, hz, shpZ]
    have c1 : wr.cell? ⟨w.heap.size, 1, none⟩ = some (.int .i64 0) := by simp [World.cell?, hz, shpZ]
    have c2 : wr.cell? ⟨w.heap.size, 2, none⟩ = some (.string ⟨#[]⟩) := by simp [World.cell?, hz, shpZ]
    have c3 : wr.cell? ⟨w.heap.size, 3, none⟩ = some (.bool false) := by simp [World.cell?, hz, shpZ]
    have hfz : ∀ i, wr.frozen? ⟨w.heap.size, i, none⟩ = false := fun i => frozen_of_row wr _ i _ _ hz
    have HZ := Lib.hid hz
    clear hz
    rcases hk5 with rfl | rfl | rfl | rfl | rfl | rfl | rfl | rfl | rfl | rfl
    · have i0 : ∀ w : World, (Instr.index 34 (.agg shapeCells) (.int .i64 0)).run Tryd.prog w = .ok (.agg #[.int .i64 0, .int .i64 1, .string sE, .bool false]) w := fun _ => by kernel_rfl
      by_cases ht : typ = 0
      · subst ht
        go_wp2
        exact bodyPost_ret (v := .tuple #[.agg #[.int .i64 0, .int .i64 1, .string sE, .bool false], .bool true]) (results_cell_tmp Tryd.results7 _ _ w.heap.size 27 _ (0, 0) _ _ rfl rfl (by rw [heap_alloc_old _ _ (by simpa using hs)]; exact set4 HZ.out) Tryd.underlying27 rfl info27) rfl ⟨rfl, ((((hb.setCell (Nat.le_refl _) _).setCell (Nat.le_refl _) _).setCell (Nat.le_refl _) _).setCell (Nat.le_refl _) _).alloc (by simp; omega) _⟩
      · have hn' : Hid (notIn 1 typ) := notIn_step 0 typ hn rfl (Ne.symm ht)
        go_wp2
        go_roundw
        case rel => exact ⟨1, by omega, by omega, rfl, hn'.out, by rw [heap_alloc_old _ _ hs]; exact HZ.out, hb.alloc (by omega) _⟩
        case measure => simp [intOf]
    · have i0 : ∀ w : World, (Instr.index 34 (.agg shapeCells) (.int .i64 1)).run Tryd.prog w = .ok (.agg #[.int .i64 2, .int .i64 3, .string sH, .bool false]) w := fun _ => by kernel_rfl
      by_cases ht : typ = 2
      · subst ht
        go_wp2
        exact bodyPost_ret (v := .tuple #[.agg #[.int .i64 2, .int .i64 3, .string sH, .bool false], .bool true]) (results_cell_tmp Tryd.results7 _ _ w.heap.size 27 _ (0, 0) _ _ rfl rfl (by rw [heap_alloc_old _ _ (by simpa using hs)]; exact set4 HZ.out) Tryd.underlying27 rfl info27) rfl ⟨rfl, ((((hb.setCell (Nat.le_refl _) _).setCell (Nat.le_refl _) _).setCell (Nat.le_refl _) _).setCell (Nat.le_refl _) _).alloc (by simp; omega) _⟩
      · have hn' : Hid (notIn 2 typ) := notIn_step 1 typ hn rfl (Ne.symm ht)
        go_wp2
        go_roundw
        case rel => exact ⟨2, by omega, by omega, rfl, hn'.out, by rw [heap_alloc_old _ _ hs]; exact HZ.out, hb.alloc (by omega) _⟩
        case measure => simp [intOf]
    · have i0 : ∀ w : World, (Instr.index 34 (.agg shapeCells) (.int .i64 2)).run Tryd.prog w = .ok (.agg #[.int .i64 3, .int .i64 4, .string sS, .bool false]) w := fun _ => by kernel_rfl
      by_cases ht : typ = 3
      · subst ht
        go_wp2
        exact bodyPost_ret (v := .tuple #[.agg #[.int .i64 3, .int .i64 4, .string sS, .bool false], .bool true]) (results_cell_tmp Tryd.results7 _ _ w.heap.size 27 _ (0, 0) _ _ rfl rfl (by rw [heap_alloc_old _ _ (by simpa using hs)]; exact set4 HZ.out) Tryd.underlying27 rfl info27) rfl ⟨rfl, ((((hb.setCell (Nat.le_refl _) _).setCell (Nat.le_refl _) _).setCell (Nat.le_refl _) _).setCell (Nat.le_refl _) _).alloc (by simp; omega) _⟩
      · have hn' : Hid (notIn 3 typ) := notIn_step 2 typ hn rfl (Ne.symm ht)
        go_wp2
        go_roundw
        case rel => exact ⟨3, by omega, by omega, rfl, hn'.out, by rw [heap_alloc_old _ _ hs]; exact HZ.out, hb.alloc (by omega) _⟩
        case measure => simp [intOf]
    · have i0 : ∀ w : World, (Instr.index 34 (.agg shapeCells) (.int .i64 3)).run Tryd.prog w = .ok (.agg #[.int .i64 4, .int .i64 5, .string sH, .bool false]) w := fun _ => by kernel_rfl
      by_cases ht : typ = 4
      · subst ht
        go_wp2
        exact bodyPost_ret (v := .tuple #[.agg #[.int .i64 4, .int .i64 5, .string sH, .bool false], .bool true]) (results_cell_tmp Tryd.results7 _ _ w.heap.size 27 _ (0, 0) _ _ rfl rfl (by rw [heap_alloc_old _ _ (by simpa using hs)]; exact set4 HZ.out) Tryd.underlying27 rfl info27) rfl ⟨rfl, ((((hb.setCell (Nat.le_refl _) _).setCell (Nat.le_refl _) _).setCell (Nat.le_refl _) _).setCell (Nat.le_refl _) _).alloc (by simp; omega) _⟩
      · have hn' : Hid (notIn 4 typ) := notIn_step 3 typ hn rfl (Ne.symm ht)
        go_wp2
        go_roundw
        case rel => exact ⟨4, by omega, by omega, rfl, hn'.out, by rw [heap_alloc_old _ _ hs]; exact HZ.out, hb.alloc (by omega) _⟩
        case measure => simp [intOf]
    · have i0 : ∀ w : World, (Instr.index 34 (.agg shapeCells) (.int .i64 4)).run Tryd.prog w = .ok (.agg #[.int .i64 11, .int .i64 3, .string sI, .bool true]) w := fun _ => by kernel_rfl
      by_cases ht : typ = 11
      · subst ht
        go_wp2
        exact bodyPost_ret (v := .tuple #[.agg #[.int .i64 11, .int .i64 3, .string sI, .bool true], .bool true]) (results_cell_tmp Tryd.results7 _ _ w.heap.size 27 _ (0, 0) _ _ rfl rfl (by rw [heap_alloc_old _ _ (by simpa using hs)]; exact set4 HZ.out) Tryd.underlying27 rfl info27) rfl ⟨rfl, ((((hb.setCell (Nat.le_refl _) _).setCell (Nat.le_refl _) _).setCell (Nat.le_refl _) _).setCell (Nat.le_refl _) _).alloc (by simp; omega) _⟩
      · have hn' : Hid (notIn 5 typ) := notIn_step 4 typ hn rfl (Ne.symm ht)
        go_wp2
        go_roundw
        case rel => exact ⟨5, by omega, by omega, rfl, hn'.out, by rw [heap_alloc_old _ _ hs]; exact HZ.out, hb.alloc (by omega) _⟩
        case measure => simp [intOf]
    · have i0 : ∀ w : World, (Instr.index 34 (.agg shapeCells) (.int .i64 5)).run Tryd.prog w = .ok (.agg #[.int .i64 16, .int .i64 5, .string sL, .bool true]) w := fun _ => by kernel_rfl
      by_cases ht : typ = 16
      · subst ht
        go_wp2
        exact bodyPost_ret (v := .tuple #[.agg #[.int .i64 16, .int .i64 5, .string sL, .bool true], .bool true]) (results_cell_tmp Tryd.results7 _ _ w.heap.size 27 _ (0, 0) _ _ rfl rfl (by rw [heap_alloc_old _ _ (by simpa using hs)]; exact set4 HZ.out) Tryd.underlying27 rfl info27) rfl ⟨rfl, ((((hb.setCell (Nat.le_refl _) _).setCell (Nat.le_refl _) _).setCell (Nat.le_refl _) _).setCell (Nat.le_refl _) _).alloc (by simp; omega) _⟩
      · have hn' : Hid (notIn 6 typ) := notIn_step 5 typ hn rfl (Ne.symm ht)
        go_wp2
        go_roundw
        case rel => exact ⟨6, by omega, by omega, rfl, hn'.out, by rw [heap_alloc_old _ _ hs]; exact HZ.out, hb.alloc (by omega) _⟩
        case measure => simp [intOf]
    · have i0 : ∀ w : World, (Instr.index 34 (.agg shapeCells) (.int .i64 6)).run Tryd.prog w = .ok (.agg #[.int .i64 17, .int .i64 4, .string sL, .bool true]) w := fun _ => by kernel_rfl
      by_cases ht : typ = 17
      · subst ht
        go_wp2
        exact bodyPost_ret (v := .tuple #[.agg #[.int .i64 17, .int .i64 4, .string sL, .bool true], .bool true]) (results_cell_tmp Tryd.results7 _ _ w.heap.size 27 _ (0, 0) _ _ rfl rfl (by rw [heap_alloc_old _ _ (by simpa using hs)]; exact set4 HZ.out) Tryd.underlying27 rfl info27) rfl ⟨rfl, ((((hb.setCell (Nat.le_refl _) _).setCell (Nat.le_refl _) _).setCell (Nat.le_refl _) _).setCell (Nat.le_refl _) _).alloc (by simp; omega) _⟩
      · have hn' : Hid (notIn 7 typ) := notIn_step 6 typ hn rfl (Ne.symm ht)
        go_wp2
        go_roundw
        case rel => exact ⟨7, by omega, by omega, rfl, hn'.out, by rw [heap_alloc_old _ _ hs]; exact HZ.out, hb.alloc (by omega) _⟩
        case measure => simp [intOf]
    · have i0 : ∀ w : World, (Instr.index 34 (.agg shapeCells) (.int .i64 7)).run Tryd.prog w = .ok (.agg #[.int .i64 18, .int .i64 2, .string sE, .bool false]) w := fun _ => by kernel_rfl
      by_cases ht : typ = 18
      · subst ht
        go_wp2
        exact bodyPost_ret (v := .tuple #[.agg #[.int .i64 18, .int .i64 2, .string sE, .bool false], .bool true]) (results_cell_tmp Tryd.results7 _ _ w.heap.size 27 _ (0, 0) _ _ rfl rfl (by rw [heap_alloc_old _ _ (by simpa using hs)]; exact set4 HZ.out) Tryd.underlying27 rfl info27) rfl ⟨rfl, ((((hb.setCell (Nat.le_refl _) _).setCell (Nat.le_refl _) _).setCell (Nat.le_refl _) _).setCell (Nat.le_refl _) _).alloc (by simp; omega) _⟩
      · have hn' : Hid (notIn 8 typ) := notIn_step 7 typ hn rfl (Ne.symm ht)
        go_wp2
        go_roundw
        case rel => exact ⟨8, by omega, by omega, rfl, hn'.out, by rw [heap_alloc_old _ _ hs]; exact HZ.out, hb.alloc (by omega) _⟩
        case measure => simp [intOf]
    · have i0 : ∀ w : World, (Instr.index 34 (.agg shapeCells) (.int .i64 8)).run Tryd.prog w = .ok (.agg #[.int .i64 20, .int .i64 3, .string sL, .bool true]) w := fun _ => by kernel_rfl
      by_cases ht : typ = 20
      · subst ht
        go_wp2
        exact bodyPost_ret (v := .tuple #[.agg #[.int .i64 20, .int .i64 3, .string sL, .bool true], .bool true]) (results_cell_tmp Tryd.results7 _ _ w.heap.size 27 _ (0, 0) _ _ rfl rfl (by rw [heap_alloc_old _ _ (by simpa using hs)]; exact set4 HZ.out) Tryd.underlying27 rfl info27) rfl ⟨rfl, ((((hb.setCell (Nat.le_refl _) _).setCell (Nat.le_refl _) _).setCell (Nat.le_refl _) _).setCell (Nat.le_refl _) _).alloc (by simp; omega) _⟩
      · have hn' : Hid (notIn 9 typ) := notIn_step 8 typ hn rfl (Ne.symm ht)
        go_wp2
        go_roundw
        case rel => exact ⟨9, by omega, by omega, rfl, hn'.out, by rw [heap_alloc_old _ _ hs]; exact HZ.out, hb.alloc (by omega) _⟩
        case measure => simp [intOf]
    · go_wp2
      refine bodyPost_ret (v := .tuple #[.agg #[.int .i64 0, .int .i64 0, .string ⟨#[]⟩, .bool false], .bool false]) (results_cell_tmp Tryd.results7 _ _ w.heap.size 27 _ (0, 0) _ _ rfl rfl (set4 HZ.out) Tryd.underlying27 rfl info27) rfl ⟨?_, (((hb.setCell (Nat.le_refl _) _).setCell (Nat.le_refl _) _).setCell (Nat.le_refl _) _).setCell (Nat.le_refl _) _⟩
      rw [shapeV, List.find?_eq_none.2 (fun x hx => by simpa using hn x (by simpa [shapeTab] using hx))]
      rfl
end Go.Proofs.YtoikbcalhoelgaaDoor
