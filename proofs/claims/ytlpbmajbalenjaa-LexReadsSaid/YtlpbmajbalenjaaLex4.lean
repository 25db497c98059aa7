/- A text's tokens, by hand: what the program's functions answer. -/
import Derived.Test.YtlpbmajbalenjaaP1
import Derived.Test.YtlpbmajbalenjaaLex3
import Derived.Test.YtlpbmajbalenjaaWX
set_option linter.unusedVariables false
set_option linter.unusedSimpArgs false
set_option maxRecDepth 100000
namespace Go.Proofs.YtlpbmajbalenjaaA
open Go Go.Proofs
abbrev Bs := List UInt8
def bc (b : UInt8) : Int := (b.toNat : Int)
def isA (c : Int) : Bool := decide (97 ≤ c) && decide (c ≤ 122)
def isD (c : Int) : Bool := decide (48 ≤ c) && decide (c ≤ 57)
def isM (c : Int) : Bool := decide (c = 123) || decide (c = 125) || decide (c = 59) || decide (c = 44) || decide (c = 42)
def isB (c : Int) : Bool := decide (c = 35) || decide (c = 32) || decide (c = 9) || decide (c = 10)
def isW (c : Int) : Bool := isA c || isD c || decide (c = 45) || decide (c = 95)
def isF (c : Int) : Bool := isD c || decide (c = 46) || decide (c = 47) || decide (c = 37)
def kd (c : Int) : Int := if isA c then 1 else if isD c then 2 else if isM c then 3 else 0
def run1 (p : Int → Bool) : Bs → Nat
 | [] => 0
 | b :: t => if p (bc b) then run1 p t + 1 else 0
def goesOn (c : Int) : Int → Bool := if isA c then isW else if isD c then isF else fun _ => false
def tokLen (b : UInt8) (t : Bs) : Nat := 1 + if bc b = 35 then run1 (fun c => !decide (c = 10)) t else run1 (goesOn (bc b)) t
theorem run1_le (p : Int → Bool) : ∀ t : Bs, run1 p t ≤ t.length
 | [] => Nat.le_refl _
 | b :: t => by
  have := run1_le p t
  unfold run1
  split
  ·simp; omega
  ·simp
theorem byte_lt (b : UInt8) : 0 ≤ bc b ∧ bc b < 256 := by
 have := b.toNat_lt
 unfold bc; omega
theorem sub_is (s : ByteArray) (c : Int) (h0 : 0 ≤ c) (h1 : c < 256) : internal_stringslite_IndexByte_R s c (idxB s.data.toList c) := by
 refine .succ (.now fun k => ?_)
 have e : run C F (k + 1) 48 [.str s, .int .u8 c] [] = some (.int .i64 (idxB s.data.toList c), []) := by
  have hf : C.P.funcs[48]? = some Try.f48 := Try.func48
  have hb : (Try.f48).body.isSome = true := rfl
  obtain ⟨b, hb⟩ := Option.isSome_iff_exists.1 hb
  rw [run, hf, Option.bind_some, hb, Option.bind_some, if_neg (fun q => absurd q.1 (by decide +kernel)), if_pos ⟨rfl, by kernel_rfl⟩]
  show (lexOrc Try.prog ⟨13, 43, 44, 45, 46, 48⟩ (run C F k) 48 [.str s, .int .u8 c]).map _ = _
  rw [lexOrc, if_neg (by decide), if_pos rfl]
  simp only [if_pos (And.intro h0 h1)]
  rfl
 show ((C.P.funcs[48]?).bind fun fn => _) = _
 rw [show C.P.funcs[48]? = some Try.f48 from Try.func48, Option.bind_some]
 show ((run C F (k + 1) 48 [.str s, .int .u8 c] []).bind _) = _
 rw [e]
 rfl
theorem index_is (s : ByteArray) (c : Int) (h0 : 0 ≤ c) (h1 : c < 256) : strings_IndexByte_R s c (idxB s.data.toList c) := strings_IndexByte_go ⟨_, sub_is s c h0 h1, rfl⟩
theorem letter_in (s : ByteArray) (i : Nat) (h : i < s.size) : ∃ b, s.data.toList[i]? = some b ∧ letter s (i : Int) = bc b := by
 have h' : i < s.data.size := h
 refine ⟨s.data[i], by rw [Array.getElem?_toList]; exact Array.getElem?_eq_getElem h', ?_⟩
 unfold letter bc
 rw [Int.toNat_natCast, Array.getD_eq_getD_getElem?, Array.getElem?_eq_getElem h']
 rfl
end Go.Proofs.YtlpbmajbalenjaaA
