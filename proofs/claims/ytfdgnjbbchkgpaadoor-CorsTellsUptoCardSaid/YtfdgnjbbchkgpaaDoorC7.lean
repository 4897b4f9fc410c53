/- Who may ask, told of lists of bytes: plain lemmas. -/
import Derived.Test.YtfdgnjbbchkgpaaDoorT
import Derived.Test.YtfdgnjbbchkgpaaDoorC5
namespace Go.Proofs.YtfdgnjbbchkgpaaDoorX
set_option linter.unusedVariables false
set_option linter.unusedSimpArgs false
open Go Go.RowKit Go.Proofs

abbrev HL := List UInt8 × List UInt8
def hrowC (h : HL) : HRow := (strOf h.1, strOf h.2)
def getB (n : List UInt8) (hl : List HL) : List UInt8 × Bool := match hl.find? (fun r => lower r.1 == lower n) with
  | some r => (r.2, true)
  | none => ([], false)
theorem getH_map (n : ByteArray) (hl : List HL) : getH n (hl.map hrowC) = (strOf (getB n.toList hl).1, (getB n.toList hl).2) := by
  unfold getH getB
  induction hl with
  | nil => rfl
  | cons r t ih =>
    rw [List.map_cons, List.find?_cons, List.find?_cons]
    have e : lowEq (hrowC r).1 n = (lower r.1 == lower n.toList) := by
      unfold lowEq hrowC
      rw [strOf_toList]
    rw [e]
    cases lower r.1 == lower n.toList with
    | true => rfl
    | false => exact ih
def allowOL : List UInt8 := [97, 108, 108, 111, 119, 45, 111, 114, 105, 103, 105, 110]
def acredL : List UInt8 := [97, 108, 108, 111, 119, 45, 99, 114, 101, 100, 115]
def methL : List UInt8 := [97, 108, 108, 111, 119, 45, 109, 101, 116, 104, 111, 100, 115]
def ahdsL : List UInt8 := [97, 108, 108, 111, 119, 45, 104, 101, 97, 100, 115]
theorem k1 : allowO.toList = allowOL := litL _
theorem k2 : acredS.toList = acredL := litL _
theorem k3 : methS.toList = methL := litL _
theorem k4 : ahdsS.toList = ahdsL := litL _
def CheckB (hl : List HL) (o : List UInt8) (creds : Bool) : Bool := ((getB allowOL hl).2 && decide (fromR (getB allowOL hl).1 o creds)) && (!creds || (getB acredL hl).1 == trueL)
theorem check_map (hl : List HL) (o : List UInt8) (creds : Bool) : CheckR (hl.map hrowC) o creds ↔ CheckB hl o creds = true := by
  unfold CheckR CheckB
  rw [getH_map, getH_map, k1, k2]
  dsimp only
  rw [strOf_toList, strOf_toList]
  cases creds <;> simp
def AllowsB (hl : List HL) (nm word : List UInt8) (creds : Bool) : Bool := decide (inR (partsL (getB nm hl).1) word creds)
theorem allows_map (hl : List HL) (nm : ByteArray) (word : List UInt8) (creds : Bool) : AllowsR (hl.map hrowC) nm word creds ↔ AllowsB hl nm.toList word creds = true := by
  unfold AllowsR AllowsB
  rw [getH_map]
  dsimp only
  rw [strOf_toList, decide_eq_true_iff]
def unsafeB (hl : List HL) : List (List UInt8) := (hl.filter fun r => !simpleL r.1 r.2).map fun r => lower r.1
theorem unsafe_map (hl : List HL) : unsafeL (hl.map hrowC) = unsafeB hl := by
  induction hl with
  | nil => rfl
  | cons r t ih =>
    rw [List.map_cons, unsafe_cons, ih]
    unfold unsafeB
    rw [List.filter_cons]
    have e : simpleR (hrowC r) = simpleL r.1 r.2 := by unfold simpleR hrowC; rw [strOf_toList, strOf_toList]
    rw [e]
    have e2 : lower (hrowC r).1.toList = lower r.1 := by unfold hrowC; rw [strOf_toList]
    rw [e2]
    cases simpleL r.1 r.2 <;> rfl
def PreB (code : Int) (hl : List HL) (o : List UInt8) (creds : Bool) (m : List UInt8) (ll : List HL) : Bool :=
  (decide (200 ≤ code ∧ code ≤ 299) && CheckB hl o creds) && (commonL m || AllowsB hl methL (lower m) creds) && (unsafeB ll).all fun n => AllowsB hl ahdsL n creds
theorem pre_map (code : Int) (hl : List HL) (o : List UInt8) (creds : Bool) (m : List UInt8) (ll : List HL) : PreR code (hl.map hrowC) o creds m (ll.map hrowC) ↔ PreB code hl o creds m ll = true := by
  unfold PreR PreB preOk
  simp only [check_map, allows_map, unsafe_map, k3, k4, Bool.and_eq_true, Bool.or_eq_true, List.all_eq_true, decide_eq_true_eq]
  constructor
  · rintro ⟨⟨h1, h2, h3⟩, h4, h5⟩
    exact ⟨⟨⟨⟨h1, h2⟩, h3⟩, h4⟩, h5⟩
  · rintro ⟨⟨⟨⟨h1, h2⟩, h3⟩, h4⟩, h5⟩
    exact ⟨⟨h1, h2, h3⟩, h4, h5⟩
theorem pre_dec (code : Int) (hl : List HL) (o : List UInt8) (creds : Bool) (m : List UInt8) (ll : List HL) : decide (PreR code (hl.map hrowC) o creds m (ll.map hrowC)) = PreB code hl o creds m ll := by
  rw [Bool.eq_iff_iff, decide_eq_true_iff, pre_map]
theorem check_dec (hl : List HL) (o : List UInt8) (creds : Bool) : decide (CheckR (hl.map hrowC) o creds) = CheckB hl o creds := by
  rw [Bool.eq_iff_iff, decide_eq_true_iff, check_map]
theorem plain_map (m : List UInt8) (ll : List HL) : plainL m (ll.map hrowC) = (commonL m && decide (unsafeB ll = [])) := by
  unfold plainL
  rw [unsafe_map]
theorem HB.ofC {hl : List HL} (h : hl.length ≤ 1000) (h2 : ∀ r ∈ hl, r.1.length ≤ 1000000 ∧ r.2.length ≤ 1000000) : HB (hl.map hrowC) := by
  refine ⟨by rw [List.length_map]; omega, fun r hr => ?_⟩
  obtain ⟨x, hx, rfl⟩ := List.mem_map.1 hr
  have := h2 x hx
  unfold hrowC
  rw [strOfZ, strOfZ]
  omega
def ohL : List UInt8 := [104, 116, 116, 112, 115, 58, 47, 47, 97, 46, 98]
def cdL : List UInt8 := [104, 116, 116, 112, 115, 58, 47, 47, 99, 46, 100]
def metT (put star : Bool) : List UInt8 := [68, 69, 76, 69, 84, 69] ++ (if put = true then [44, 80, 85, 84] else []) ++ (if star = true then [44, 42] else [])
def hdT (x all : Bool) : List UInt8 := [121] ++ (if x = true then [44, 120, 45, 111, 110, 101] else []) ++ (if all = true then [32, 44, 32, 42] else [])
def mHl (put star x all : Bool) : List HL := [(allowOL, ohL), (acredL, trueL), (methL, metT put star), (ahdsL, hdT x all)]
def mthL : List (List UInt8) := [[80, 85, 84], [80, 79, 83, 84], [68, 69, 76, 69, 84, 69]]
def oneH : HL := ([88, 45, 79, 110, 101], [49])
def accH : HL := ([65, 99, 99, 101, 112, 116], [])
def mayB (j : Nat) (put star creds : Bool) : Bool := !(mthL.getD j [] == [80, 85, 84]) || put || (star && !creds)
set_option maxRecDepth 100000 in
theorem methods_all : ∀ put star x all creds : Bool, ∀ j, j < 3 → PreB 200 (mHl put star x all) ohL creds (mthL.getD j []) [] = mayB j put star creds ∧ PreB 200 (mHl put star x all) ohL creds (mthL.getD j []) [oneH] = (mayB j put star creds && (x || (all && !creds))) ∧ PreB 200 (mHl put star x all) ohL creds (mthL.getD j []) [accH] = mayB j put star creds ∧ PreB 200 (mHl put star x all) cdL creds (mthL.getD j []) [] = false := by decide +kernel
theorem mHl_ok (put star x all : Bool) : HB ((mHl put star x all).map hrowC) := HB.ofC (by show 4 ≤ 1000; decide) (by cases put <;> cases star <;> cases x <;> cases all <;> decide)
end Go.Proofs.YtfdgnjbbchkgpaaDoorX
