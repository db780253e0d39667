/- Strings that are put together: plain facts for the walks; one row in a block. -/
import Derived.Test.YtgpledgjpjifcaaGreatDoorRows
import Derived.Test.YtgpledgjpjifcaaGreatDoorBase
import Derived.Laws.Concat
import Derived.Laws.IdiomStrings
import Derived.Lib.Hide
namespace Go.Proofs.YtgpledgjpjifcaaGreatDoor
open Go.RowKit

/-- s is the text l -/
def Str (l : List UInt8) (s : ByteArray) : Prop := s = ⟨l.toArray⟩
theorem str_of (l : List UInt8) : ∃ s : ByteArray, (⟨l.toArray⟩ : ByteArray) = s ∧ Hid (Str l s) := ⟨_, rfl, Lib.hid rfl⟩
theorem Str.size {l : List UInt8} {s : ByteArray} (h : Str l s) : s.size = l.length := by
  rw [h]
  show l.toArray.size = l.length
  simp
theorem Str.data {l : List UInt8} {s : ByteArray} (h : Str l s) : s.data.toList = l := by rw [h]
theorem str_self (s : ByteArray) : Str s.data.toList s := by
  unfold Str
  rw [Lib.mk_data]
theorem str_lit {l : List UInt8} {s : ByteArray} (h : s = ⟨l.toArray⟩) : Str l s := h
/-- a sum of texts -/
theorem str_add {l1 l2 : List UInt8} {s1 s2 : ByteArray} (h1 : Str l1 s1) (h2 : Str l2 s2) (hl : l1.length + l2.length ≤ 9223372036854775807) :
    ∃ t : ByteArray, Hid (Str (l1 ++ l2) t) ∧ ∀ W : World, (Op.stringOp .add s1 s2).run Tryz.prog W = .ok (.string t) W := by
  refine ⟨s1 ++ s2, Lib.hid ?_, fun W => run_string_add_sum W _ _ ?_⟩
  · unfold Str
    rw [h1, h2, ByteArray.mk_append_mk]
  · rw [h1.size, h2.size]
    exact hl
theorem rd_one {w : World} {b n : Nat} {e : TypeId} {cs : List Value} (h : w.heap[b]? = some (.cells cs.toArray e (0, 0))) (hn : cs.length = n) : Rd w w.heap.size n (some ⟨b, 0, none⟩) [cs] := by
  refine ⟨fun r hr => by rw [List.mem_singleton.1 hr]; exact hn, fun _ => ⟨b, 0, rfl, (Array.getElem?_eq_some_iff.1 h).1, fun i r j v h1 h2 => ?_⟩⟩
  cases i with
  | zero =>
    have : r = cs := by simpa using h1.symm
    subst this
    rw [blk_cell h]
    simpa using h2
  | succ i => simp at h1
end Go.Proofs.YtgpledgjpjifcaaGreatDoor
