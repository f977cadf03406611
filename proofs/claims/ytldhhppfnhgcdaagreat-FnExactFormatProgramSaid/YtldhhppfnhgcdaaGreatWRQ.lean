/- Walks through the code: each function's contract. -/
import Derived.Test.YtldhhppfnhgcdaaGreatWQQ
set_option linter.unusedVariables false
set_option linter.unusedSimpArgs false
set_option maxRecDepth 8000
namespace Go.Proofs.YtldhhppfnhgcdaaGreat
open Go Go.VL

end Go.Proofs.YtldhhppfnhgcdaaGreat
namespace Go.VL
/-- The text that marks a place. -/
def dig (k : Nat) : ByteArray := strOfNums [IntKind.u8.wrap (IntKind.i64.wrap (48 + (k : Int).tmod 10))]
def mgo : Nat → Nat → ByteArray → ByteArray
  | 0, _, out => out
  | f + 1, k, out => if k = 0 then out else mgo f (k / 10) (dig k ++ out)
def mtx (k : Nat) : ByteArray := ⟨#[109]⟩ ++ mgo k k ⟨#[]⟩
theorem mgo_zero (f : Nat) (out : ByteArray) : mgo f 0 out = out := by cases f <;> simp [mgo]
/-- Places marked from k on. -/
def mS (k n : Nat) : List ByteArray := (List.range n).map fun i => mtx (k + i)
theorem mS_len (k n : Nat) : (mS k n).length = n := by simp [mS]
theorem mS_get {k n i : Nat} (h : i < n) : (mS k n)[i]? = some (mtx (k + i)) := by simp [mS, h]
theorem mS_succ (k n : Nat) : mS k (n + 1) = mS k n ++ [mtx (k + n)] := by simp [mS, List.range_succ]
theorem i64max : IntKind.i64.max = 9223372036854775807 := rfl
end Go.VL
namespace Go.Proofs.YtldhhppfnhgcdaaGreat
open Go Go.VL
end Go.Proofs.YtldhhppfnhgcdaaGreat
