import Derived.Test.YtmpilejhnolafaaLex
set_option linter.unusedVariables false
namespace Go.Proofs.Ytmpilejhnolafaa
def payW (t : Int) (s : ByteArray) (a b : Int) : Value := if t = 0 then .nilIface else if t = 1 then .iface 9 (.string s) else .iface 94 (.agg #[.int .i64 a, .int .i64 b])
theorem payW_0 (s : ByteArray) (a b : Int) : payW 0 s a b = .nilIface := rfl
theorem payW_1 (s : ByteArray) (a b : Int) : payW 1 s a b = .iface 9 (.string s) := rfl
theorem payW_2 (s : ByteArray) (a b : Int) : payW 2 s a b = .iface 94 (.agg #[.int .i64 a, .int .i64 b]) := rfl
end Go.Proofs.Ytmpilejhnolafaa
