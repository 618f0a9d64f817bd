
/- A frame: what Seal makes, what Open reads, walked. -/
import Derived.Test.YtmgiichlccdcfaaDoorReader
import Derived.Test.YtmgiichlccdcfaaDoorCrc
set_option linter.unusedVariables false
set_option linter.unusedSimpArgs false
set_option maxRecDepth 100000
namespace Go.Proofs.YtmgiichlccdcfaaDoor
open Go

def frameHead (kind number : Int) (n : Nat) : List Int := [kind] ++ be32 ((n : Int) % 4294967296) ++ be32 (number / 4294967296 % 4294967296) ++ be32 (number % 4294967296)
def frameBody (kind number : Int) (xs : List Int) : List Int := frameHead kind number xs.length ++ be32 (crcOf (frameHead kind number xs.length) : Nat) ++ xs
def frameOf (kind number : Int) (xs : List Int) : List Int := frameBody kind number xs ++ be32 (crcOf (frameBody kind number xs) : Nat)

theorem frameHead_len (kind number : Int) (n : Nat) : (frameHead kind number n).length = 13 := rfl
theorem frameBody_len (kind number : Int) (xs : List Int) : (frameBody kind number xs).length = 17 + xs.length := by
  simp only [frameBody, List.length_append, frameHead_len, be32_len]
theorem frameOf_len (kind number : Int) (xs : List Int) : (frameOf kind number xs).length = 21 + xs.length := by
  simp only [frameOf, List.length_append, frameBody_len, be32_len]; omega
theorem mem_app {p : Int → Prop} {l r : List Int} (h1 : ∀ z ∈ l, p z) (h2 : ∀ z ∈ r, p z) : ∀ z ∈ l ++ r, p z := fun z hz => (List.mem_append.1 hz).elim (h1 z) (h2 z)
theorem frameHead_byte {kind number : Int} {n : Nat} (h0 : 0 ≤ kind) (h1 : kind < 256) : ∀ z ∈ frameHead kind number n, 0 ≤ z ∧ z < 256 :=
  mem_app (mem_app (mem_app (by simp; omega) (be32_byte _)) (be32_byte _)) (be32_byte _)
theorem frameBody_byte {kind number : Int} {xs : List Int} (h0 : 0 ≤ kind) (h1 : kind < 256) (hx : ∀ z ∈ xs, 0 ≤ z ∧ z < 256) : ∀ z ∈ frameBody kind number xs, 0 ≤ z ∧ z < 256 :=
  mem_app (mem_app (frameHead_byte h0 h1) (be32_byte _)) hx

end Go.Proofs.YtmgiichlccdcfaaDoor
