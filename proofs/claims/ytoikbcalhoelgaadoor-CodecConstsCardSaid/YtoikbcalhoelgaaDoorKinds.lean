/- The walks of codec.Kind, cisternref21.Kind and the law CodecConsts. -/
import Derived.Test.YtoikbcalhoelgaaDoorShape
namespace Go.Proofs.YtoikbcalhoelgaaDoor
open Go.RowKit

def kindF (typ : Int) : Int := match shapeTab.find? (fun x => x.1 == typ) with
  | some (_, b, _, _) => b
  | none => 0

set_option maxHeartbeats 1000000 in
theorem kind_any (typ : Int) (w : World) (t : TypeId) (fr : Nat × Nat) (hg : w.heap[0]? = some (.cells shapeCells t fr)) :
    Calls Tryd.prog 4 #[.int .i64 typ] w fun e w' => e = .returned (.int .i64 (kindF typ)) ∧ Below w.heap.size w w' := by
  have hs : ∃ a b s t u, shapeV typ = .tuple #[.agg #[.int .i64 a, .int .i64 b, .string s, .bool t], .bool u] ∧ kindF typ = b := by
    unfold shapeV kindF
    cases h : shapeTab.find? (fun x => x.1 == typ) with
    | none => exact ⟨_, _, _, _, _, rfl, rfl⟩
    | some x => obtain ⟨a, b, s, t⟩ := x; exact ⟨_, _, _, _, _, rfl, rfl⟩
  obtain ⟨a, b, s, t', u, hv, hk⟩ := hs
  have HK := Lib.hid hk
  have HV := Lib.hid hv
  clear hk hv
  go_enter Tryd.func4, Tryd.ntmps4
  go_wp2_with (go_at_call 7; refine (shapeOf_any typ _ t fr hg).mono ?_; rintro e w1 ⟨rfl, hb⟩; rw [HV.out])
  go_ret
  exact ⟨by rw [HK.out]; rfl, hb.alloc hb.size _⟩

theorem num_any (n : Int) (w : World) : Calls Tryd.prog 6 #[.int .i64 n] w fun e w' => e = .returned (.int .i64 n) ∧ w = w' := by
  go_enter Tryd.func6, Tryd.ntmps6
  go_wp2
  go_ret
  exact ⟨rfl, rfl⟩

def typeCells : Array Value := #[.int .i64 0, .int .i64 2, .int .i64 3, .int .i64 4, .int .i64 11, .int .i64 16, .int .i64 17, .int .i64 18, .int .i64 20]
def kindCells : Array Value := #[.int .i64 1, .int .i64 3, .int .i64 4, .int .i64 5, .int .i64 3, .int .i64 5, .int .i64 4, .int .i64 2, .int .i64 3]
theorem types_any (w : World) : Calls Tryd.prog 8 #[] w fun e w' => e = .returned (.tuple #[.slice (some ⟨w.heap.size, 0, none⟩) 9 9, .slice (some ⟨w.heap.size + 1, 0, none⟩) 9 9, .slice (some ⟨w.heap.size + 1 + 1, 0, none⟩) 9 9]) ∧
    w'.heap[w.heap.size]? = some (.cells typeCells 3) ∧ w'.heap[w.heap.size + 1]? = some (.cells kindCells 3) ∧ Below w.heap.size w w' := by
  go_enter Tryd.func8, Tryd.ntmps8
  go_wp2
  go_ret3
  refine ⟨rfl, ?_, ?_, (((Below.refl _ _).alloc (Nat.le_refl _) _).alloc (by simp) _).alloc (by simp; omega) _⟩
  · rw [heap_alloc_old _ _ (by simp; omega), heap_alloc_old _ _ (by simp)]; exact heap_alloc_new _ _
  · rw [heap_alloc_old _ _ (by simp)]; exact heap_alloc2_new _ _ _

set_option maxRecDepth 100000 in
set_option maxHeartbeats 1000000 in
theorem refKind_any (typ : Int) (w : World) :
    Calls Tryd.prog 5 #[.int .i64 typ] w fun e w' => e = .returned (.int .i64 (kindF typ)) ∧ Below w.heap.size w w' := by
  go_enter Tryd.func5, Tryd.ntmps5
  go_wp2_with (go_at_call 8; refine (types_any _).mono ?_; rintro e w1 ⟨rfl, ht, hk, hb⟩)
  have HT := Lib.hid ht
  have HKK := Lib.hid hk
  clear ht hk
  go_loop [6] (fun i => ∃ k : Int, 0 ≤ k ∧ k ≤ 9 ∧ i = .int .i64 k ∧ notIn k.toNat typ) (fun i => 9 - (intOf i).toNat)
  case atStart => exact ⟨0, by omega, by omega, rfl, by simp [notIn]⟩
  case round =>
    obtain ⟨k, hk0, hk, rfl, hn⟩ := hrel
    have hk5 : k = 0 ∨ k = 1 ∨ k = 2 ∨ k = 3 ∨ k = 4 ∨ k = 5 ∨ k = 6 ∨ k = 7 ∨ k = 8 ∨ k = 9 := by omega
    clear hk hk0
    rcases hk5 with rfl | rfl | rfl | rfl | rfl | rfl | rfl | rfl | rfl | rfl
    · have c1 : w1.cell? ⟨w.heap.size, 0, none⟩ = some (.int .i64 0) := by rw [cell_of_row _ _ _ _ _ _ HT.out]; rfl
      have c2 : w1.cell? ⟨w.heap.size + 1, 0, none⟩ = some (.int .i64 1) := by rw [cell_of_row _ _ _ _ _ _ HKK.out]; rfl
      by_cases ht : typ = 0
      · subst ht
        go_wp2
        go_ret
        exact ⟨rfl, hb⟩
      · have hn' : Hid (notIn 1 typ) := notIn_step 0 typ hn rfl (Ne.symm ht)
        have ht' : ((0 : Int) == typ) = false := by simpa using Ne.symm ht
        clear ht
        go_wp2
        go_round
        case rel => exact ⟨1, by omega, by omega, rfl, hn'.out⟩
        case measure => simp [intOf]
    · have c1 : w1.cell? ⟨w.heap.size, 1, none⟩ = some (.int .i64 2) := by rw [cell_of_row _ _ _ _ _ _ HT.out]; rfl
      have c2 : w1.cell? ⟨w.heap.size + 1, 1, none⟩ = some (.int .i64 3) := by rw [cell_of_row _ _ _ _ _ _ HKK.out]; rfl
      by_cases ht : typ = 2
      · subst ht
        go_wp2
        go_ret
        exact ⟨rfl, hb⟩
      · have hn' : Hid (notIn 2 typ) := notIn_step 1 typ hn rfl (Ne.symm ht)
        have ht' : ((2 : Int) == typ) = false := by simpa using Ne.symm ht
        clear ht
        go_wp2
        go_round
        case rel => exact ⟨2, by omega, by omega, rfl, hn'.out⟩
        case measure => simp [intOf]
    · have c1 : w1.cell? ⟨w.heap.size, 2, none⟩ = some (.int .i64 3) := by rw [cell_of_row _ _ _ _ _ _ HT.out]; rfl
      have c2 : w1.cell? ⟨w.heap.size + 1, 2, none⟩ = some (.int .i64 4) := by rw [cell_of_row _ _ _ _ _ _ HKK.out]; rfl
      by_cases ht : typ = 3
      · subst ht
        go_wp2
        go_ret
        exact ⟨rfl, hb⟩
      · have hn' : Hid (notIn 3 typ) := notIn_step 2 typ hn rfl (Ne.symm ht)
        have ht' : ((3 : Int) == typ) = false := by simpa using Ne.symm ht
        clear ht
        go_wp2
        go_round
        case rel => exact ⟨3, by omega, by omega, rfl, hn'.out⟩
        case measure => simp [intOf]
    · have c1 : w1.cell? ⟨w.heap.size, 3, none⟩ = some (.int .i64 4) := by rw [cell_of_row _ _ _ _ _ _ HT.out]; rfl
      have c2 : w1.cell? ⟨w.heap.size + 1, 3, none⟩ = some (.int .i64 5) := by rw [cell_of_row _ _ _ _ _ _ HKK.out]; rfl
      by_cases ht : typ = 4
      · subst ht
        go_wp2
        go_ret
        exact ⟨rfl, hb⟩
      · have hn' : Hid (notIn 4 typ) := notIn_step 3 typ hn rfl (Ne.symm ht)
        have ht' : ((4 : Int) == typ) = false := by simpa using Ne.symm ht
        clear ht
        go_wp2
        go_round
        case rel => exact ⟨4, by omega, by omega, rfl, hn'.out⟩
        case measure => simp [intOf]
    · have c1 : w1.cell? ⟨w.heap.size, 4, none⟩ = some (.int .i64 11) := by rw [cell_of_row _ _ _ _ _ _ HT.out]; rfl
      have c2 : w1.cell? ⟨w.heap.size + 1, 4, none⟩ = some (.int .i64 3) := by rw [cell_of_row _ _ _ _ _ _ HKK.out]; rfl
      by_cases ht : typ = 11
      · subst ht
        go_wp2
        go_ret
        exact ⟨rfl, hb⟩
      · have hn' : Hid (notIn 5 typ) := notIn_step 4 typ hn rfl (Ne.symm ht)
        have ht' : ((11 : Int) == typ) = false := by simpa using Ne.symm ht
        clear ht
        go_wp2
        go_round
        case rel => exact ⟨5, by omega, by omega, rfl, hn'.out⟩
        case measure => simp [intOf]
    · have c1 : w1.cell? ⟨w.heap.size, 5, none⟩ = some (.int .i64 16) := by rw [cell_of_row _ _ _ _ _ _ HT.out]; rfl
      have c2 : w1.cell? ⟨w.heap.size + 1, 5, none⟩ = some (.int .i64 5) := by rw [cell_of_row _ _ _ _ _ _ HKK.out]; rfl
      by_cases ht : typ = 16
      · subst ht
        go_wp2
        go_ret
        exact ⟨rfl, hb⟩
      · have hn' : Hid (notIn 6 typ) := notIn_step 5 typ hn rfl (Ne.symm ht)
        have ht' : ((16 : Int) == typ) = false := by simpa using Ne.symm ht
        clear ht
        go_wp2
        go_round
        case rel => exact ⟨6, by omega, by omega, rfl, hn'.out⟩
        case measure => simp [intOf]
    · have c1 : w1.cell? ⟨w.heap.size, 6, none⟩ = some (.int .i64 17) := by rw [cell_of_row _ _ _ _ _ _ HT.out]; rfl
      have c2 : w1.cell? ⟨w.heap.size + 1, 6, none⟩ = some (.int .i64 4) := by rw [cell_of_row _ _ _ _ _ _ HKK.out]; rfl
      by_cases ht : typ = 17
      · subst ht
        go_wp2
        go_ret
        exact ⟨rfl, hb⟩
      · have hn' : Hid (notIn 7 typ) := notIn_step 6 typ hn rfl (Ne.symm ht)
        have ht' : ((17 : Int) == typ) = false := by simpa using Ne.symm ht
        clear ht
        go_wp2
        go_round
        case rel => exact ⟨7, by omega, by omega, rfl, hn'.out⟩
        case measure => simp [intOf]
    · have c1 : w1.cell? ⟨w.heap.size, 7, none⟩ = some (.int .i64 18) := by rw [cell_of_row _ _ _ _ _ _ HT.out]; rfl
      have c2 : w1.cell? ⟨w.heap.size + 1, 7, none⟩ = some (.int .i64 2) := by rw [cell_of_row _ _ _ _ _ _ HKK.out]; rfl
      by_cases ht : typ = 18
      · subst ht
        go_wp2
        go_ret
        exact ⟨rfl, hb⟩
      · have hn' : Hid (notIn 8 typ) := notIn_step 7 typ hn rfl (Ne.symm ht)
        have ht' : ((18 : Int) == typ) = false := by simpa using Ne.symm ht
        clear ht
        go_wp2
        go_round
        case rel => exact ⟨8, by omega, by omega, rfl, hn'.out⟩
        case measure => simp [intOf]
    · have c1 : w1.cell? ⟨w.heap.size, 8, none⟩ = some (.int .i64 20) := by rw [cell_of_row _ _ _ _ _ _ HT.out]; rfl
      have c2 : w1.cell? ⟨w.heap.size + 1, 8, none⟩ = some (.int .i64 3) := by rw [cell_of_row _ _ _ _ _ _ HKK.out]; rfl
      by_cases ht : typ = 20
      · subst ht
        go_wp2
        go_ret
        exact ⟨rfl, hb⟩
      · have hn' : Hid (notIn 9 typ) := notIn_step 8 typ hn rfl (Ne.symm ht)
        have ht' : ((20 : Int) == typ) = false := by simpa using Ne.symm ht
        clear ht
        go_wp2
        go_round
        case rel => exact ⟨9, by omega, by omega, rfl, hn'.out⟩
        case measure => simp [intOf]
    · go_wp2
      go_ret
      exact ⟨by rw [kindF, List.find?_eq_none.2 (fun x hx => by simpa using hn x (by simpa [shapeTab] using hx))]; rfl, hb⟩
end Go.Proofs.YtoikbcalhoelgaaDoor
