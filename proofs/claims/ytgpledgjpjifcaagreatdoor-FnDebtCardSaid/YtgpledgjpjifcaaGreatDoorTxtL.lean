/- Texts of debts, accounts, lines, ledgers and postings: plain. -/
import Derived.Test.YtgpledgjpjifcaaGreatDoorRows
import Derived.Test.YtgpledgjpjifcaaGreatDoorNumL
import Derived.Test.YtgpledgjpjifcaaGreatDoorDebtF
import Derived.Test.YtgpledgjpjifcaaGreatDoorLed
namespace Go.Proofs.YtgpledgjpjifcaaGreatDoor
open Go

def debtL (d : Debt) : List UInt8 := if debtOk d = true then numL d.From ++ [62] ++ numL d.To ++ [32] ++ numL d.Amt else []
def wordL (k : Int) : List UInt8 :=
  match k.toNat with
  | 1 => [119, 97, 108, 108, 101, 116]
  | 2 => [101, 113, 117, 105, 116, 121]
  | 3 => [105, 110, 99, 111, 109, 101]
  | 4 => [114, 101, 98, 97, 108]
  | 5 => [99, 104, 97, 105, 110]
  | 6 => [108, 111, 99, 97, 108]
  | 7 => [105, 110]
  | 8 => [111, 117, 116]
  | _ => []
theorem wordL_len (k : Int) : (wordL k).length ≤ 6 := by unfold wordL; split <;> simp
def accL (k c : Int) : List UInt8 := if accB k c = true then wordL k ++ (if 0 < c then numL c else []) else []
theorem accL_len (k c : Int) : (accL k c).length ≤ 23 := by
  have := wordL_len k
  have := numL_len c
  unfold accL
  split
  · split <;> simp <;> omega
  · simp
/-- one line of a ledger -/
def rowL (x : Line) : List UInt8 := accL x.Kind x.Ch ++ [32] ++ numL x.Amt ++ [10]
theorem rowL_len (x : Line) : (rowL x).length ≤ 42 := by
  have := accL_len x.Kind x.Ch
  have := numL_len x.Amt
  unfold rowL
  simp
  omega
def rowsL (l : List Line) : List UInt8 := l.foldl (fun s x => s ++ rowL x) []
def ledHead (z : Int) : List UInt8 := [108, 101, 100, 103, 101, 114, 32] ++ numL z ++ [10]
def ledTo (z : Int) (l : List Line) : List UInt8 := l.foldl (fun s x => s ++ rowL x) (ledHead z)
def ledgerL (z : Int) (l : List Line) : List UInt8 := if ledgerB z l = true then ledTo z l else []
/-- one line of a posting -/
def itemL (x : Line) : List UInt8 := [32] ++ accL x.Kind x.Ch ++ [58] ++ numL x.Amt
theorem itemL_len (x : Line) : (itemL x).length ≤ 42 := by
  have := accL_len x.Kind x.Ch
  have := numL_len x.Amt
  unfold itemL
  simp
  omega
def postHead (z : Int) : List UInt8 := [112, 111, 115, 116, 32] ++ numL z
def postTo (z : Int) (l : List Line) : List UInt8 := l.foldl (fun s x => s ++ itemL x) (postHead z)
def postingL (z : Int) (l : List Line) : List UInt8 := if postingB z l = true then postTo z l else []
theorem ledTo_succ (z : Int) (l : List Line) {k : Nat} (hk : k < l.length) : ledTo z (l.take (k + 1)) = ledTo z (l.take k) ++ rowL l[k] := foldl_take_succ l _ _ hk
theorem postTo_succ (z : Int) (l : List Line) {k : Nat} (hk : k < l.length) : postTo z (l.take (k + 1)) = postTo z (l.take k) ++ itemL l[k] := foldl_take_succ l _ _ hk
theorem foldl_len {f : Line → List UInt8} {B : Nat} (hf : ∀ x, (f x).length ≤ B) : ∀ (l : List Line) (s : List UInt8), (l.foldl (fun s x => s ++ f x) s).length ≤ s.length + B * l.length
  | [], s => by simp
  | x :: l, s => by
    have h1 := foldl_len hf l (s ++ f x)
    have h2 := hf x
    simp only [List.foldl_cons, List.length_cons, List.length_append] at h1 ⊢
    rw [Nat.mul_add]
    omega
theorem ledTo_len (z : Int) (l : List Line) : (ledTo z l).length ≤ 25 + 42 * l.length := by
  have h1 := foldl_len rowL_len l (ledHead z)
  have h2 := numL_len z
  unfold ledTo
  unfold ledHead at h1 ⊢
  simp only [List.length_append, List.length_cons, List.length_nil] at h1 h2 ⊢
  omega
theorem postTo_len (z : Int) (l : List Line) : (postTo z l).length ≤ 22 + 42 * l.length := by
  have h1 := foldl_len itemL_len l (postHead z)
  have h2 := numL_len z
  unfold postTo
  unfold postHead at h1 ⊢
  simp only [List.length_append, List.length_cons, List.length_nil] at h1 h2 ⊢
  omega
end Go.Proofs.YtgpledgjpjifcaaGreatDoor
