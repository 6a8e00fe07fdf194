/- The table in memory: its block, its map, its instances. -/
import Derived.Test.YtmcihkfbgcfccaaHMap
import Derived.Test.YtmcihkfbgcfccaaWWords
import Derived.WalkLawsBesides
namespace Go.Proofs.Ytmcihkfbgcfccaa.H
open Go.RowKit Go.Proofs.YtmcihkfbgcfccaaW.PrintWords
set_option linter.unusedVariables false
set_option linter.unusedSimpArgs false
/-- The cells of a library, of an instance of the table's, of one of the document's. -/
def libC (sy : Bool) (vd : Int) (sv : Value) : Array Value := #[(.int .u16 0), (.slice none 0 0), (.int .u32 0), (.int .u32 0), (.int .u64 0), (.int .u64 0), (.int .u64 0), (.int .u64 0), (.int .u64 0), (.int .u32 0), (.int .u32 0), (.int .u64 0), (.int .u64 0), (.int .u64 0), (.int .u64 0), (.int .u64 0), (.string ⟨#[]⟩), (.string ⟨#[]⟩), (.slice none 0 0), (.bool sy), (.bool false), (.bool false), (.bool false), (.int .u64 0), (.int .u64 0), (.int .u64 0), (.int .u64 0), (.int .u64 0), (.int .u64 0), (.int .u64 vd), (.int .u64 0), (.int .u64 0), (.int .u64 0), (.bool false), (.int .u64 0), (.int .u64 0), (.bool false), (.int .u64 0), (.int .u64 0), (.bool false), (.int .u64 0), (.int .u64 0), (.bool false), (.int .u64 0), (.int .u64 0), (.bool false), (.int .u64 0), (.int .u64 0), (.bool false), (.bool false), (.bool false), (.int .u64 0), (.int .u64 0), (.bool false), (.int .u64 0), (.int .u64 0), sv, (.slice none 0 0), (.int .i64 0), (.int .i64 0)]
def instT (id sp : Int) (sy : Bool) (vd : Int) (sv nv : Value) (gl : Bool) : Array Value := #[(.int .i64 id), (.int .i64 sp), (.int .i64 0), (.int .u64 0), (.int .u64 0), (.string ⟨#[]⟩), (.int .u16 0), (.slice none 0 0), (.int .u32 0), (.int .u32 0), (.int .u64 0), (.int .u64 0), (.int .u64 0), (.int .u64 0), (.int .u64 0), (.int .u32 0), (.int .u32 0), (.int .u64 0), (.int .u64 0), (.int .u64 0), (.int .u64 0), (.int .u64 0), (.string ⟨#[]⟩), (.string ⟨#[]⟩), (.slice none 0 0), (.bool sy), (.bool false), (.bool false), (.bool false), (.int .u64 0), (.int .u64 0), (.int .u64 0), (.int .u64 0), (.int .u64 0), (.int .u64 0), (.int .u64 vd), (.int .u64 0), (.int .u64 0), (.int .u64 0), (.bool false), (.int .u64 0), (.int .u64 0), (.bool false), (.int .u64 0), (.int .u64 0), (.bool false), (.int .u64 0), (.int .u64 0), (.bool false), (.int .u64 0), (.int .u64 0), (.bool false), (.int .u64 0), (.int .u64 0), (.bool false), (.bool false), (.bool false), (.int .u64 0), (.int .u64 0), (.bool false), (.int .u64 0), (.int .u64 0), sv, (.slice none 0 0), (.int .i64 0), (.int .i64 0), (.int .u64 0), nv, (.slice none 0 0), (.int .i64 0), (.int .i64 0), (.bool gl), (.bool false)]
def instR (id sp : Int) (sy : Bool) (vd : Int) (sv nv : Value) (gl : Bool) : Array Value := #[(.int .i64 id), (.int .i64 sp), (.int .i64 0), (.int .u64 0), (.int .u64 0), (.string ⟨#[]⟩), (.int .u16 0), (.slice none 0 0), (.int .u32 0), (.int .u32 0), (.int .u64 0), (.int .u64 0), (.int .u64 0), (.int .u64 0), (.int .u64 0), (.int .u32 0), (.int .u32 0), (.int .u64 0), (.int .u64 0), (.int .u64 0), (.int .u64 0), (.int .u64 0), (.string ⟨#[]⟩), (.string ⟨#[]⟩), (.slice none 0 0), (.bool sy), (.bool false), (.bool false), (.bool false), (.int .u64 0), (.int .u64 0), (.int .u64 0), (.int .u64 0), (.int .u64 0), (.int .u64 0), (.int .u64 vd), (.int .u64 0), (.int .u64 0), (.int .u64 0), (.bool false), (.int .u64 0), (.int .u64 0), (.bool false), (.int .u64 0), (.int .u64 0), (.bool false), (.int .u64 0), (.int .u64 0), (.bool false), (.int .u64 0), (.int .u64 0), (.bool false), (.int .u64 0), (.int .u64 0), (.bool false), (.bool false), (.bool false), (.int .u64 0), (.int .u64 0), (.bool false), (.int .u64 0), (.int .u64 0), sv, (.slice none 0 0), (.int .i64 0), (.int .i64 0), nv, (.slice none 0 0), (.int .i64 0), (.int .i64 0), (.bool gl), (.bool false), (.slice none 0 0), (.slice none 0 0)]
set_option maxRecDepth 100000 in
/-- slices.Clone of nothing. -/
theorem clone_nil (w : World) : Calls Try.prog 38 #[.slice none 0 0] w fun e w' => e = .returned (.slice none 0 0) ∧ w' = w := by
  have hE : (binOp .eql 31 (.slice none 0 0) (.slice none 0 0)).run Try.prog w = .ok (.bool true) w := by
    simpa using Go.Lib.run_eql_slice_nil w 31 3 none 0 0 0 0 Try.underlying31
  go_enter Try.func38, Try.ntmps38
  go_wp2
  go_ret
  exact ⟨rfl, rfl⟩
set_option maxRecDepth 100000 in
/-- table.New(12). -/
theorem new_calls (w : World) : Calls Try.prog 25 #[.int .i64 12] w fun e w' => e = .returned (.tuple #[.pointer (some ⟨w.heap.size + 1, 0, none⟩), .int .i64 0]) ∧ w' = (w.alloc (.map #[] 0)).alloc (.cells #[.int .i64 12, .int .i64 1, .slice none 0 0, .map (some w.heap.size)] 114) := by
  have hmm := @run_makeMap Try.prog
  go_enter Try.func25, Try.ntmps25
  go_wp2
  go_ret2
  exact ⟨by simp, rfl⟩
set_option maxRecDepth 100000 in
/-- (*Table).Get. -/
theorem get_calls (w : World) (bt bm : Nat) (a0 a1 a2 : Value) (g : List Nat) (id : Int) (hb : w.heap[bt]? = some (.cells #[a0, a1, a2, .map (some bm)] 114 (0, 0))) (hm : TabMap w bm g) (hw : (Lit.int .i64 id).wf = true) :
    Calls Try.prog 22 #[.pointer (some ⟨bt, 0, none⟩), .int .i64 id] w fun e w' => e = .returned (ptrV (look g id)) ∧ w' = w := by
  have hrun := hm.lookup hw
  have hc : w.cell? ⟨bt, 3, none⟩ = some (.map (some bm)) := (blk_cell hb 3).trans rfl
  go_enter Try.func22, Try.ntmps22
  go_wp2
  go_ret
  exact ⟨rfl, rfl⟩
end Go.Proofs.Ytmcihkfbgcfccaa.H
