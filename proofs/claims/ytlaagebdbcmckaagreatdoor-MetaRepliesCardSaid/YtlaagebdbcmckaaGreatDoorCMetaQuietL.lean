/- The lines of MetaQuiet read, and their replies. No program in sight. -/
import Derived.Test.YtlaagebdbcmckaaGreatDoorBC
namespace Go.Proofs.YtlaagebdbcmckaaGreatDoor
set_option linter.unusedSimpArgs false
set_option linter.unusedVariables false
open Go.Lib

def mqR (op delta : Int) (name : List UInt8) : Mq := ⟨1, [{ Cd.zero with op := op, delta := delta, recache := -1, key := [107] }], true, [], 0, false, name, [[113]], [107]⟩
def mq_lg : List UInt8 := [109, 103, 32, 107, 32, 113, 10]
def mq_ls : List UInt8 := [109, 115, 32, 107, 32, 48, 32, 113, 13, 10, 13, 10]
def mq_ld : List UInt8 := [109, 100, 32, 107, 32, 113, 10]
def mq_lc : List UInt8 := [109, 97, 32, 107, 32, 113, 10]
set_option maxRecDepth 4000
theorem mq_g : mParse mq_lg = (mqR 1 0 m_mg, 7) := by rfl
theorem mq_s : mParse mq_ls = (mqR 2 0 m_ms, 12) := by rfl
theorem mq_d : mParse mq_ld = (mqR 5 0 m_md, 7) := by rfl
theorem mq_c : mParse mq_lc = (mqR 3 1 m_ma, 7) := by rfl
def hdT : List UInt8 := [72, 68, 13, 10]
theorem mq_g1 (x : It) (now : Int) : mReply (mqR 1 0 m_mg) ⟨1, x, 0, false, false, false⟩ now = [72, 68, 13, 10] := by rfl
theorem mq_g2 (now : Int) : mReply (mqR 1 0 m_mg) (toldF 5) now = [] := by rfl
theorem mq_s1 (x : It) (now : Int) : mReply (mqR 2 0 m_ms) ⟨2, x, 0, false, false, false⟩ now = [] := by rfl
theorem mq_s2 (now : Int) : mReply (mqR 2 0 m_ms) (toldF 3) now = [78, 83, 13, 10] := by rfl
theorem mq_s3 (now : Int) : mReply (mqR 2 0 m_ms) (toldF 4) now = [69, 88, 13, 10] := by rfl
theorem mq_s4 (now : Int) : mReply (mqR 2 0 m_ms) (toldF 5) now = [78, 70, 13, 10] := by rfl
theorem mq_d1 (now : Int) : mReply (mqR 5 0 m_md) (toldF 9) now = [] := by rfl
theorem mq_d2 (now : Int) : mReply (mqR 5 0 m_md) (toldF 5) now = [] := by rfl
theorem mq_d3 (now : Int) : mReply (mqR 5 0 m_md) (toldF 4) now = [69, 88, 13, 10] := by rfl
theorem mq_c1 (x : It) (now : Int) : mReply (mqR 3 1 m_ma) ⟨6, x, 0, false, false, false⟩ now = [] := by rfl
theorem mq_c2 (now : Int) : mReply (mqR 3 1 m_ma) (toldF 5) now = [] := by rfl
theorem mq_c3 (now : Int) : mReply (mqR 3 1 m_ma) (toldF 12) now = [83, 69, 82, 86, 69, 82, 95, 69, 82, 82, 79, 82, 32, 111, 117, 116, 32, 111, 102, 32, 109, 101, 109, 111, 114, 121, 32, 115, 116, 111, 114, 105, 110, 103, 32, 111, 98, 106, 101, 99, 116, 13, 10] := by rfl
end Go.Proofs.YtlaagebdbcmckaaGreatDoor
