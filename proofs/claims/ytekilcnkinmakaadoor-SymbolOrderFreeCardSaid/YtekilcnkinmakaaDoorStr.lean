/- string(b): what a slice of bytes reads as a string. No walk. -/
import Derived.Test.YtekilcnkinmakaaDoorBase
import Derived.Laws.BytesString
import Derived.Laws.BytesArg
namespace Go.Deco
open Go Go.RowKit

def strOf (l : List Nat) : ByteArray := ⟨(l.map fun x => UInt8.ofNat x).toArray⟩
theorem run_str {P : Program} {w : World} {S : Nat → Prop} {v : Value} {l : List Nat} (src dst e : TypeId) (hs : P.underlying src = some (.slice e)) (he : P.underlying e = some (.int .u8)) (hd : P.underlying dst = some .string)
    (h : Sl u8R w S v l) : (convert src dst v).run P w = .ok (.string (strOf l)) w := by
  obtain ⟨A, c, rfl, h1, h2⟩ := h.form
  rw [run_convert_bytes_string w src dst e A l.length c hs he hd]
  rcases A with _ | ad
  · have hl : l = [] := by
      cases l with
      | nil => rfl
      | cons y ys =>
        obtain ⟨b, off, h⟩ := h.at0 (by simp)
        cases h
    subst hl
    simp [Conv.bytesToString, strOf]
    rfl
  · obtain ⟨xs, hc, hcell⟩ := h.chunksA
    obtain ⟨rfl, hb⟩ := chunks_num.1 hc
    have hl := run_loadCells_list (P := P) w ad (l.map fun x : Nat => Value.int .u8 x) hcell
    rw [List.length_map] at hl
    have e1 : (l.map fun x : Nat => Value.int .u8 x) = (l.map fun x : Nat => (x : Int)).map (Value.int .u8) := by simp
    rw [e1] at hl
    rw [run_bytesToString w ad l.length c _ hl, foldl_push_bytes]
    simp [strOf, ByteArray.empty, ByteArray.emptyWithCapacity, Function.comp_def]
    rfl
end Go.Deco
