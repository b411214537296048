/- The lexer's put. -/
import Derived.Test.YtdoaeapahgmfoaaGreatDoorL0
namespace Go.Proofs.YtdoaeapahgmfoaaGreatDoor
open Go.RowKit

theorem Tryz.infoTok : (Tryz.prog.info? 104).map (fun i => (i.zero, i.size, i.bytes)) = some (some (.agg #[.string ⟨#[]⟩, .string ⟨#[]⟩, .int .i64 0]), 3, 40) := by kernel_rfl
theorem Tryz.infoInt : (Tryz.prog.info? 3).map (fun i => (i.zero, i.size, i.bytes)) = some (some (.int .i64 0), 1, 8) := by kernel_rfl

/-- How many tokens a program of so many bytes may have, with room. -/
def maxToks : Nat := 100000

set_option maxRecDepth 100000 in
set_option maxHeartbeats 400000 in
theorem put_any {w : World} {x i : Nat} {s : ByteArray} {vo vp : Value} {ts : List Tok} {os : List Nat} (h : LexC w x s i vo vp ts os) (kd tx : ByteArray) (a : Nat) (hts : ts.length ≤ maxToks) :
    Calls Tryz.prog 46 #[.pointer (some ⟨x, 0, none⟩), .string kd, .string tx, .int .i64 a] w fun e w' => e = .returned (.tuple #[]) ∧
      (∃ vo', LexC w' x s i vo' vp (ts ++ [⟨kd.data.toList, tx.data.toList, a⟩]) os) ∧ Stp x w w' := by
  obtain ⟨i0, hi, hz0, hz1, hz2⟩ := info_parts Tryz.infoTok
  have c2 := h.c2
  have f2 := h.f 2
  have hn : ts.length + 1 ≤ maxLen := by unfold maxToks at hts; unfold maxLen; omega
  have hb : (ts.length + 1) * 40 ≤ 140737488355328 := by unfold maxToks at hts; omega
  have Hn := Lib.hid hn; have Hb := Lib.hid hb; clear hn hb hts
  go_enter Tryz.func46, Tryz.ntmps46
  go_wp2_with (at_builtin; refine wpList_append_lies (w.alloc (.cells #[.string kd, .string tx, .int .i64 a] 104)) rfl (.tmp 12) (.tmp 17) 42 rfl (x - 1) 104 i0 _ 3 40 Tryz.underlying42 hi hz0 hz1 hz2 rfl (by decide) vo ts.length (tokCells ts) rfl (h.out.alloc _) ⟨w.heap.size, 0, none⟩ 1 1 [.string kd, .string tx, .int .i64 a] rfl rfl (World.news_of_block (cs := #[.string kd, .string tx, .int .i64 a]) (heap_alloc_new w _)) (by simp [Value.oneCell']) (by decide) Hn.out Hb.out (by have := h.lt; simp; omega) (w.heap.size + 1) (by simp) ?_; intro g cap w1 hown hg hat hlt; obtain ⟨d2, e2⟩ := h.grown_out2 hg)
  go_end0
  exact ⟨rfl, ⟨_, (h.putOut ⟨kd.data.toList, tx.data.toList, a⟩ hown hg hat).1⟩, (h.putOut ⟨kd.data.toList, tx.data.toList, a⟩ hown hg hat).2⟩
