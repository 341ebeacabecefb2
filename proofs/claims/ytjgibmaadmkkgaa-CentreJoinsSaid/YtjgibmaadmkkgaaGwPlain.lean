/- Plain: gateways. No program in sight (but for the order of texts). -/
import Derived.Test.YtjgibmaadmkkgaaPlainStr
import Derived.Test.YtjgibmaadmkkgaaPlainList
import Derived.Test.YtjgibmaadmkkgaaPlainLabel
import Derived.Test.YtjgibmaadmkkgaaPlainPlace
import Derived.Test.YtjgibmaadmkkgaaPlainBs
namespace Go.Proofs.Ytjgibmaadmkkgaa.Pl
set_option linter.unusedVariables false
structure Gw where
  c : ByteArray
  a : Int
  v : Int
def Gw.enc (g : Gw) : List Value := [.string g.c, .int .i64 g.a, .int .i64 g.v]
theorem Gw.enc_len (g : Gw) : g.enc.length = 3 := rfl
theorem Gw.enc_one (g : Gw) : ∀ u ∈ g.enc, u.oneCell' = true := by
  intro u hu
  simp [Gw.enc] at hu
  rcases hu with rfl | rfl | rfl <;> rfl
/-- what is wrong with one gateway -/
def Gw.err (g : Gw) : Int := if lab g.c.data.toList then (if wi g.a 0 4294967295 && wi g.v 1 1000000 then 0 else 3) else 1
def Gw.lt (g h : Gw) : Bool := slt g.c h.c
def ckGw (l : List Gw) : Int := ckL 6 Gw.err Gw.lt l
theorem Gw.err_form {g : Gw} (h : lab g.c.data.toList = false) : g.err = 1 := by simp [Gw.err, h]
theorem Gw.err_ok {g : Gw} (h : lab g.c.data.toList = true) (h1 : wi g.a 0 4294967295 = true) (h2 : wi g.v 1 1000000 = true) : g.err = 0 := by simp [Gw.err, h, h1, h2]
theorem Gw.err_a {g : Gw} (h : lab g.c.data.toList = true) (h1 : wi g.a 0 4294967295 = false) : g.err = 3 := by simp [Gw.err, h, h1]
theorem Gw.err_v {g : Gw} (h : lab g.c.data.toList = true) (h2 : wi g.v 1 1000000 = false) : g.err = 3 := by simp [Gw.err, h, h2]
/-- the comparison that the search goes by -/
def Gw.cf (name : ByteArray) (g : Gw) : Int := scmp g.c name
end Go.Proofs.Ytjgibmaadmkkgaa.Pl
