/- The law CursorNobody in both cases. -/
import Derived.Test.YtjfgkceiiofhpaaCua
import Derived.Test.YtjfgkceiiofhpaaCub
namespace Go.Proofs.Ytjfgkceiiofhpaa
open Go Go.Fw
theorem cu_fc {G : GH} (s : Str) (n : Int) : Fc Try.prog 3 [.string s.b, .int .i64 n] G [] (fun v _ _ => v = .bool true) := by
  by_cases hn : 0 < n
  · exact cua_fc s n hn
  · exact cub_fc s n hn
end Go.Proofs.Ytjfgkceiiofhpaa
