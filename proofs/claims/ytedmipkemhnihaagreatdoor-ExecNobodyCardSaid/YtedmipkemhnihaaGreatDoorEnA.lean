/-
  exec.Find and exec.Rows of a graph that no call made: they tell nothing and ErrNil.
-/
import Derived.Test.YtedmipkemhnihaaGreatDoorProg
import Derived.Test.YtedmipkemhnihaaGreatDoorBase
namespace Go.Proofs.YtedmipkemhnihaaGreatDoor
set_option linter.unusedVariables false
set_option linter.unusedSimpArgs false
open Go Go.RowKit

theorem storeNone (w : World) : Calls Tryz.prog 105 #[.pointer none] w fun e w' => e = .returned (.bool true) ∧ w' = w := by
  go_enter Tryz.func105, Tryz.ntmps105
  go_wp2
  go_ret
  exact ⟨rfl, rfl⟩

theorem storeGen (w : World) : Calls Tryz.prog 46 #[.pointer none] w fun e w' => e = .returned (.int .i64 0) ∧ w' = w := by
  go_enter Tryz.func46, Tryz.ntmps46
  go_wp2_with fail
  refine (storeNone _).mono ?_
  rintro e w1 ⟨rfl, rfl⟩
  go_wp2
  go_ret
  exact ⟨rfl, rfl⟩

/-- A graph that no call made, or of no store. -/
def Emp (w : World) (a : Option Addr) : Prop := a = none ∨ ∃ b, a = some ⟨b, 0, none⟩ ∧ Blk w b #[.pointer none] 34
theorem Emp.fr {w w' : World} {a : Option Addr} (h : Emp w a) (g : Fr No w w') : Emp w' a := by
  rcases h with rfl | ⟨b, rfl, hb⟩
  · exact .inl rfl
  · exact .inr ⟨b, rfl, hb.fr g id⟩

theorem graphNone (a : Option Addr) (w : World) (h : Emp w a) : Calls Tryz.prog 18 #[.pointer a] w fun e w' => e = .returned (.bool true) ∧ w' = w := by
  rcases h with rfl | ⟨b, rfl, hb⟩
  · go_enter Tryz.func18, Tryz.ntmps18
    go_wp2
    go_ret
    exact ⟨rfl, rfl⟩
  · have hc := hb.cell (j := 0) rfl
    clear hb
    go_enter Tryz.func18, Tryz.ntmps18
    go_wp2_with fail
    refine (storeGen _).mono ?_
    rintro e w1 ⟨rfl, rfl⟩
    go_wp2
    go_ret
    exact ⟨rfl, rfl⟩

theorem rulesNone (a : Option Addr) (v : Int) (w : World) (h : Emp w a) : Calls Tryz.prog 7 #[.pointer a, .int .i64 v] w fun e w' => e = .returned (.tuple #[.slice none 0 0, .int .i64 1]) ∧ w' = w := by
  have H := Lib.hid h; clear h
  go_enter Tryz.func7, Tryz.ntmps7
  go_wp2_with fail
  refine (graphNone a w H.out).mono ?_
  rintro e w1 ⟨rfl, rfl⟩
  go_wp2
  go_ret2
  exact ⟨rfl, rfl⟩

set_option maxHeartbeats 1000000 in
theorem findNone (a : Option Addr) (v : Int) (q0 q1 q2 q3 q4 q5 q6 q7 p0 p1 p2 : Value) (w : World) (h : Emp w a) :
    Calls Tryz.prog 5 #[.pointer a, .int .i64 v, .agg #[q0, q1, q2, q3, q4, q5, q6, q7], .agg #[p0, p1, p2]] w fun e w' => e = .returned (.tuple #[.slice none 0 0, .int .i64 1]) ∧ Fr No w w' := by
  have H := Lib.hid h; clear h
  go_enter Tryz.func5, Tryz.ntmps5
  go_wp2_with fail
  refine (rulesNone a v _ (H.out.fr (((((Fr.refl _ _).alloc _).alloc _).alloc _).alloc _))).mono ?_
  rintro e w1 ⟨rfl, rfl⟩
  go_wp2
  refine bodyPost_ret (v := .tuple #[.slice none 0 0, .int .i64 1]) (by simp [results, Tryz.results5, go_sem]) rfl ⟨rfl, ((((Fr.refl _ _).alloc _).alloc _).alloc _).alloc _⟩

set_option maxHeartbeats 1000000 in
theorem rowsNone (a : Option Addr) (v : Int) (q0 q1 q2 q3 q4 q5 q6 q7 p0 p1 p2 : Value) (w : World) (h : Emp w a) :
    Calls Tryz.prog 6 #[.pointer a, .int .i64 v, .agg #[q0, q1, q2, q3, q4, q5, q6, q7], .agg #[p0, p1, p2]] w fun e w' => e = .returned (.tuple #[.slice none 0 0, .int .i64 1]) ∧ Fr No w w' := by
  have H := Lib.hid h; clear h
  go_enter Tryz.func6, Tryz.ntmps6
  go_wp2_with fail
  refine (findNone a v q0 q1 q2 q3 q4 q5 q6 q7 p0 p1 p2 _ (H.out.fr (((Fr.refl _ _).alloc _).alloc _))).mono ?_
  rintro e w1 ⟨rfl, hg⟩
  have HG := Lib.hid hg; clear hg
  go_wp2
  go_ret2
  exact ⟨rfl, ((((Fr.refl _ _).alloc _).alloc _)).and HG.out⟩

theorem newNone (w : World) : Calls Tryz.prog 4 #[.pointer none] w fun e w' => e = .returned (.pointer (some ⟨w.heap.size, 0, none⟩)) ∧ w' = w.alloc (.cells #[.pointer none] 34) := by
  go_enter Tryz.func4, Tryz.ntmps4
  go_wp2
  go_ret
  exact ⟨rfl, rfl⟩

/-- What stays from round to round. -/
structure LInv (q p : Array Value) (w wr : World) : Prop where
  q : Blk wr w.heap.size q 28
  p : Blk wr (w.heap.size + 1) p 30
  a : Blk wr (w.heap.size + 1 + 1) #[.pointer none] 34
  b : Blk wr (w.heap.size + 1 + 1 + 1) #[.pointer none] 34
  l : Blk wr (w.heap.size + 1 + 1 + 1 + 1) #[.pointer none, .pointer (some ⟨w.heap.size + 1 + 1, 0, none⟩), .pointer (some ⟨w.heap.size + 1 + 1 + 1, 0, none⟩)] 31
  fr : Fr No w wr
theorem LInv.keeps {q p : Array Value} {w wr w' : World} (h : LInv q p w wr) (g : Fr No wr w') : LInv q p w w' :=
  ⟨h.q.fr g id, h.p.fr g id, h.a.fr g id, h.b.fr g id, h.l.fr g id, h.fr.and g⟩
theorem LInv.elem {q p : Array Value} {w wr : World} (h : LInv q p w wr) (k : Nat) (hk : k < 3) : ∃ a, wr.cell? ⟨w.heap.size + 1 + 1 + 1 + 1, k, none⟩ = some (.pointer a) ∧ Emp wr a := by
  have : k = 0 ∨ k = 1 ∨ k = 2 := by omega
  rcases this with rfl | rfl | rfl
  · exact ⟨_, h.l.cell rfl, .inl rfl⟩
  · exact ⟨_, h.l.cell rfl, .inr ⟨_, rfl, h.a⟩⟩
  · exact ⟨_, h.l.cell rfl, .inr ⟨_, rfl, h.b⟩⟩

set_option maxHeartbeats 1000000 in
theorem lawWalk (q0 q1 q2 q3 q4 q5 q6 q7 p0 p1 p2 : Value) (w : World) :
    Calls Tryz.prog 3 #[.agg #[q0, q1, q2, q3, q4, q5, q6, q7], .agg #[p0, p1, p2]] w fun e w' => e = .returned (.bool true) ∧ Below w.heap.size w w' := by
  go_enter Tryz.func3, Tryz.ntmps3
  go_wp2_with (go_at_call 4; refine (newNone _).mono ?_; rintro e w1 ⟨rfl, rfl⟩)
  go_loopw [16] (fun i wr => ∃ k : Nat, k ≤ 3 ∧ i = .int .i64 k ∧ LInv #[q0, q1, q2, q3, q4, q5, q6, q7] #[p0, p1, p2] w wr) (fun i _ => 3 - (intOf i).toNat)
  case atStart =>
    exact ⟨0, by omega, rfl, ⟨(((((Blk.new' _ _ _ _ (by simp)).alloc _).alloc _).alloc _).alloc _), ((((Blk.new' _ _ _ _ (by simp)).alloc _).alloc _).alloc _), (((Blk.new' _ _ _ _ (by simp)).alloc _).alloc _),
      ((Blk.new' _ _ _ _ (by simp)).alloc _), (Blk.new' _ _ _ _ (by simp)), (((((Fr.refl _ _).alloc _).alloc _).alloc _).alloc _).alloc _⟩⟩
  case round =>
    obtain ⟨k, hk, rfl, hL⟩ := hrel
    by_cases hlt : k < 3
    · obtain ⟨a, ha, he⟩ := hL.elem k hlt
      obtain ⟨cq, _⟩ := hL.q.cells
      obtain ⟨cp, _⟩ := hL.p.cells
      have HL := Lib.hid hL; clear hL
      have HE := Lib.hid he; clear he
      go_wp2_with fail
      refine (findNone a 0 q0 q1 q2 q3 q4 q5 q6 q7 p0 p1 p2 _ HE.out).mono ?_
      rintro e w1 ⟨rfl, hg⟩
      have hL1 := HL.out.keeps hg
      have HE1 := Lib.hid (HE.out.fr hg)
      clear hg HL HE ha cq cp
      obtain ⟨cq, _⟩ := hL1.q.cells
      obtain ⟨cp, _⟩ := hL1.p.cells
      have HL := Lib.hid hL1; clear hL1
      go_wp2_with fail
      refine (rowsNone a 0 q0 q1 q2 q3 q4 q5 q6 q7 p0 p1 p2 _ HE1.out).mono ?_
      rintro e w2 ⟨rfl, hg⟩
      have HL1 := Lib.hid (HL.out.keeps hg)
      clear hg HL HE1 cq cp
      go_wp2
      go_roundw
      case rel => exact ⟨k + 1, by omega, by go_num, HL1.out⟩
      case measure => simp [intOf]; omega
    · have HL := Lib.hid hL; clear hL
      go_wp2
      go_ret
      exact ⟨rfl, HL.out.fr.no_below⟩
end Go.Proofs.YtedmipkemhnihaaGreatDoor
