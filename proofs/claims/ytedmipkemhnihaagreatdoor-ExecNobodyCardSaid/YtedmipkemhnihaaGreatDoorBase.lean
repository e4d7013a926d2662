/-
  Words for memory, of this session's own: what a call may have touched ('Fr'), a block known whole ('Blk').
-/
import Derived.WalkKit
import Derived.Lib.Hide
import Derived.Outline
import Derived.WalkLawsBesides
import Derived.WalkSpells
import Derived.Deep.Draws
import Derived.Deep.QuietTactic
import Derived.BigQuiet
namespace Go.Proofs.YtedmipkemhnihaaGreatDoor
set_option linter.unusedVariables false
set_option linter.unusedSimpArgs false
open Go Go.RowKit

@[go_sem] theorem run_store_float (P : Program) (w : World) (a : Addr) (m : Go.Mode) (k : FloatKind) (n : Nat) : (store a (.float k n) m).run P w = stored P w a (.float k n) m := run_store P w a _ m rfl
@[go_sem] theorem run_store_map (P : Program) (w : World) (a : Addr) (m : Go.Mode) (n : Option Nat) : (store a (.map n) m).run P w = stored P w a (.map n) m := run_store P w a _ m rfl

/-- What a call may have touched of the memory that was there: the blocks of F alone. -/
structure Fr (F : Nat → Prop) (w w' : World) : Prop where
  os : w'.os = w.os
  tape : w'.tape = w.tape
  output : w'.output = w.output
  size : w.heap.size ≤ w'.heap.size
  block : ∀ k, k < w.heap.size → ¬ F k → w'.heap[k]? = w.heap[k]?

/-- Nothing of it. -/
abbrev No : Nat → Prop := fun _ => False
/-- One block of it. -/
abbrev One (b : Nat) : Nat → Prop := fun k => k = b

theorem Fr.refl (F : Nat → Prop) (w : World) : Fr F w w := ⟨rfl, rfl, rfl, Nat.le_refl _, fun _ _ _ => rfl⟩
theorem Fr.mono {F G : Nat → Prop} {w w' : World} (h : Fr F w w') (hg : ∀ k, k < w.heap.size → F k → G k) : Fr G w w' :=
  ⟨h.os, h.tape, h.output, h.size, fun k hk hn => h.block k hk fun hf => hn (hg k hk hf)⟩
theorem Fr.trans {F G : Nat → Prop} {a b c : World} (h : Fr F a b) (k : Fr G b c) (hg : ∀ i, i < a.heap.size → G i → F i) : Fr F a c :=
  ⟨k.os.trans h.os, k.tape.trans h.tape, k.output.trans h.output, Nat.le_trans h.size k.size, fun i hi hn =>
    (k.block i (Nat.lt_of_lt_of_le hi h.size) fun x => hn (hg i hi x)).trans (h.block i hi hn)⟩
/-- Two calls behind one another, the second touching no more than the first. -/
theorem Fr.and {F : Nat → Prop} {a b c : World} (h : Fr F a b) (k : Fr F b c) : Fr F a c := h.trans k fun _ _ x => x
theorem Fr.no {F : Nat → Prop} {a b c : World} (h : Fr F a b) (k : Fr No b c) : Fr F a c := h.trans k fun _ _ x => x.elim
theorem Fr.alloc {F : Nat → Prop} {a w : World} (h : Fr F a w) (o : Obj) : Fr F a (w.alloc o) :=
  ⟨h.os, h.tape, h.output, Nat.le_trans h.size (by simp), fun k hk hn => (Below.heap_alloc w o k (Nat.lt_of_lt_of_le hk h.size)).trans (h.block k hk hn)⟩
theorem Fr.setCell {F : Nat → Prop} {a w : World} (h : Fr F a w) {p : Addr} (hp : F p.block ∨ a.heap.size ≤ p.block) (u : Value) : Fr F a (w.setCell p u) :=
  ⟨h.os, h.tape, h.output, by simpa [World.setCell] using h.size, fun k hk hn => (Below.heap_setCell w p u k fun e => by
    subst e
    rcases hp with hp | hp
    · exact hn hp
    · omega).trans (h.block k hk hn)⟩
theorem Fr.drew {F : Nat → Prop} {a w : World} (h : Fr F a w) : Fr F a w.drew := ⟨h.os, h.tape, h.output, h.size, h.block⟩
theorem Fr.drewN {F : Nat → Prop} {a w : World} (h : Fr F a w) (n : Nat) : Fr F a (w.drewN n) := ⟨h.os, h.tape, h.output, h.size, h.block⟩
theorem Fr.ofBelow {w w' : World} (h : Below w.heap.size w w') : Fr No w w' := ⟨h.os, h.tape, h.output, h.size, fun k hk _ => h.block k hk⟩
theorem Fr.below {w w' : World} {F : Nat → Prop} {B : Nat} (h : Fr F w w') (hB : B ≤ w.heap.size) (hF : ∀ k, k < B → ¬ F k) : Below B w w' :=
  ⟨h.os, h.tape, h.output, h.size, fun k hk => h.block k (Nat.lt_of_lt_of_le hk hB) (hF k hk)⟩
theorem Fr.no_below {w w' : World} (h : Fr No w w') : Below w.heap.size w w' := h.below (Nat.le_refl _) fun _ _ x => x
theorem Fr.ofGrown {w w' : World} {row : Option Nat} (h : w.grownBy w' row) : Fr (fun k => row = some k) w w' :=
  ⟨h.os, h.tape, h.output, h.size, fun k hk hn => h.block k hk fun e => hn e.symm⟩
theorem Fr.grown {w w' : World} {row : Option Nat} {F : Nat → Prop} (h : Fr F w w') (hF : ∀ k, k < w.heap.size → F k → row = some k) : w.grownBy w' row :=
  ⟨h.os, h.tape, h.output, h.size, fun k hk hn => h.block k hk fun hf => hn (hF k hk hf).symm⟩
theorem Fr.cell {F : Nat → Prop} {w w' : World} (h : Fr F w w') {p : Addr} (hp : p.block < w.heap.size) (hn : ¬ F p.block) : w'.cell? p = w.cell? p := World.cell?_of_block (w := w) (h.block _ hp hn)

/-- A block of cells, known whole; none of it frozen. -/
def Blk (w : World) (b : Nat) (cs : Array Value) (T : TypeId) : Prop := w.heap[b]? = some (.cells cs T (0, 0))
theorem Blk.lt {w : World} {b : Nat} {cs : Array Value} {T : TypeId} (h : Blk w b cs T) : b < w.heap.size := (Array.getElem?_eq_some_iff.1 h).1
theorem Blk.cell {w : World} {b : Nat} {cs : Array Value} {T : TypeId} (h : Blk w b cs T) {j : Nat} {v : Value} (hv : cs[j]? = some v) : w.cell? ⟨b, j, none⟩ = some v := by
  unfold Blk at h; simp [World.cell?, h, hv]
theorem Blk.free {w : World} {b : Nat} {cs : Array Value} {T : TypeId} (h : Blk w b cs T) (j : Nat) : w.frozen? ⟨b, j, none⟩ = false := by
  unfold Blk at h; simp [World.frozen?, h]
theorem Blk.cells {w : World} {b : Nat} {cs : Array Value} {T : TypeId} (h : Blk w b cs T) : (∀ j, w.cell? ⟨b, j, none⟩ = cs[j]?) ∧ (∀ j, w.frozen? ⟨b, j, none⟩ = false) :=
  ⟨fun j => by unfold Blk at h; simp [World.cell?, h], h.free⟩
theorem Blk.fr {F : Nat → Prop} {w w' : World} {b : Nat} {cs : Array Value} {T : TypeId} (h : Blk w b cs T) (g : Fr F w w') (hn : ¬ F b) : Blk w' b cs T :=
  (g.block b h.lt hn).trans h
theorem Blk.alloc {w : World} {b : Nat} {cs : Array Value} {T : TypeId} (h : Blk w b cs T) (o : Obj) : Blk (w.alloc o) b cs T := (Below.heap_alloc w o b h.lt).trans h
theorem Blk.new (w : World) (cs : Array Value) (T : TypeId) : Blk (w.alloc (.cells cs T)) w.heap.size cs T := by
  show (w.heap.push _)[w.heap.size]? = _
  simp
theorem Blk.new' (w : World) (cs : Array Value) (T : TypeId) (n : Nat) (h : n = w.heap.size) : Blk (w.alloc (.cells cs T)) n cs T := h ▸ Blk.new w cs T
theorem Blk.drew {w : World} {b : Nat} {cs : Array Value} {T : TypeId} (h : Blk w b cs T) : Blk w.drew b cs T := h
theorem Blk.drewN {w : World} {b : Nat} {cs : Array Value} {T : TypeId} (h : Blk w b cs T) (n : Nat) : Blk (w.drewN n) b cs T := h
theorem Blk.set {w : World} {b : Nat} {cs : Array Value} {T : TypeId} (h : Blk w b cs T) (j : Nat) (v : Value) : Blk (w.setCell ⟨b, j, none⟩ v) b (cs.setIfInBounds j v) T := by
  unfold Blk at h ⊢
  simp [World.setCell, Array.getElem?_modify, h]
theorem Blk.putRow {w : World} {b : Nat} {cs : Array Value} {T : TypeId} (h : Blk w b cs T) (ds : Array Value) : Blk (w.setRow b ds) b ds T := setRow_heap w b cs ds T (0, 0) h
theorem Blk.putRow_other {w : World} {b g : Nat} {cs : Array Value} {T : TypeId} (h : Blk w b cs T) (hn : b ≠ g) (ds : Array Value) : Blk (w.setRow g ds) b cs T := (setRow_other w g b ds hn).trans h
theorem Fr.setRow {F : Nat → Prop} {a w : World} (h : Fr F a w) {g : Nat} (hg : F g ∨ a.heap.size ≤ g) (ds : Array Value) : Fr F a (w.setRow g ds) :=
  ⟨h.os, h.tape, h.output, by simpa using h.size, fun k hk hn => (setRow_other w g k ds fun e => by
    subst e
    rcases hg with hg | hg
    · exact hn hg
    · omega).trans (h.block k hk hn)⟩
/-- A struct stored whole into a block of its own. -/
theorem Blk.store {P : Program} {w : World} {b : Nat} {cs : Array Value} {T : TypeId} (h : Blk w b cs T) (ds : Array Value) (hs : ds.size = cs.size) (h1 : ∀ v ∈ ds.toList, v.oneCell' = true) :
    (storeCells ⟨b, 0, none⟩ ds.toList).run P w = .ok () (w.setRow b ds) := by
  rw [run_storeCells_at (P := P) b 0 T ds.toList 0 cs w h (by simp [hs]) h1]
  simp only [Nat.zero_add, List.take_zero, List.nil_append, Array.length_toList, hs]
  rw [List.drop_of_length_le (by simp)]
  simp
/-- A struct loaded whole out of a block of its own. -/
theorem Blk.load {P : Program} {w : World} {b : Nat} {cs : Array Value} {T : TypeId} (h : Blk w b cs T) :
    (loadCells ⟨b, 0, none⟩ cs.size).run P w = .ok cs w := by
  have := run_loadCells_list (P := P) w ⟨b, 0, none⟩ cs.toList (fun j v hv => by
    have hadd : (⟨b, 0, none⟩ : Addr).add j = ⟨b, j, none⟩ := by unfold Addr.add; split <;> simp_all
    rw [hadd]; exact h.cell (by simpa using hv))
  simpa using this
/-- A struct result, read where it lies. -/
theorem results_blk {P : Program} {fn : Func} {tmps : Array Value} {w : World} {a : Tmp} {T T' : TypeId} {b : Nat} {cs : Array Value} {fs : Array Field} (hr : fn.results = #[.cell a T])
    (ht : tmps.getD a undef = .pointer (some ⟨b, 0, none⟩)) (h : Blk w b cs T') (hu : P.underlying T = some (.struct fs)) (hi : (P.info? T).map (·.size) = some cs.size) :
    (results fn tmps).run P w = .ok (.agg cs) w := by
  have hl := run_loadVar_row (P := P) w b T' T cs (0, 0) (.struct fs) h hu rfl hi
  have ht' : tmps[a]?.getD undef = .pointer (some ⟨b, 0, none⟩) := by simpa using ht
  simp [results, hr, ht', asAddr, Sem.run_bind, hl]
theorem Blk.set_other {w : World} {b : Nat} {cs : Array Value} {T : TypeId} (h : Blk w b cs T) {p : Addr} (hp : b ≠ p.block) (v : Value) : Blk (w.setCell p v) b cs T :=
  (Below.heap_setCell w p v b hp).trans h

/-- Is a type's description that of a struct or an array? -/
def aggDesc : TypeDesc → Bool | .struct _ => true | .array _ _ => true | _ => false
theorem run_isAgg {P : Program} {t : TypeId} {d : TypeDesc} (h : P.underlying t = some d) (w : World) : (isAgg t).run P w = .ok (aggDesc d) w := by
  unfold isAgg
  rw [Sem.run_bind, run_underlying h w]
  cases d <;> rfl
theorem run_field_cell {P : Program} {T : TypeId} {fs : Array Field} {i : Nat} {f : Field} {d : TypeDesc} {cs : Array Value} {v : Value} (hu : P.underlying T = some (.struct fs)) (hf : fs[i]? = some f)
    (hd : P.underlying f.type = some d) (ha : aggDesc d = false) (hv : cs[f.offset]? = some v) (w : World) : (Instr.field T (.agg cs) i).run P w = .ok v w := by
  have hi := run_isAgg (P := P) hd w
  unfold Instr.field
  rw [Sem.run_bind, run_underlying hu w]
  simp only [Result.andThen_ok, hf, asAgg]
  simp [part, Sem.run_bind, hi, ha, hv]
theorem run_field_agg {P : Program} {T : TypeId} {fs : Array Field} {i : Nat} {f : Field} {d : TypeDesc} {cs : Array Value} {n : Nat} (hu : P.underlying T = some (.struct fs)) (hf : fs[i]? = some f)
    (hd : P.underlying f.type = some d) (ha : aggDesc d = true) (hs : (P.info? f.type).map (·.size) = some n) {ds : Array Value} (hv : cs.extract f.offset (f.offset + n) = ds) (w : World) : (Instr.field T (.agg cs) i).run P w = .ok (.agg ds) w := by
  have hi := run_isAgg (P := P) hd w
  unfold Instr.field
  rw [Sem.run_bind, run_underlying hu w]
  simp only [Result.andThen_ok, hf, asAgg]
  cases hq : P.info? f.type with
  | none => simp [hq] at hs
  | some g =>
    have hg : g.size = n := by simpa [hq] using hs
    simp [part, Sem.run_bind, hi, ha, sizeOf, typeInfo, hq, hg, hv]
end Go.Proofs.YtedmipkemhnihaaGreatDoor
