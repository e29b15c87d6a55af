/-
  A part of the proof that FabricPads answers true at every input. No condition.
-/
import Derived.Test.YtnjjhhbogdiceaaGreatYb
set_option linter.unusedVariables false
set_option maxRecDepth 100000
namespace Go.Vm.T3
open Go Go.Vm
abbrev T55 (R : Type) := List Int → Int → Int → (Bool → Option R) → Option R
def f55T {R : Type} (a2 : List Int) (a3 a4 : Int) (kr : Bool → Option R) : Option R :=
 bif (ltI a3 (lenI a2.length)) then
  gd (inR a3 a2.length) <|
  gd (posI a4) <|
  kr (eqI (andI .i64 (shrI .i64 (List.getD a2 (Int.toNat a3) 0) a4) 1) 1)
 else
 kr false
def f55 {R : Type} (M : Nat) (a2 : List Int) (a3 a4 : Int) (kr : Bool → Option R) : Option R :=
  f55T a2 a3 a4 kr
abbrev T51 (R : Type) := List Int → List Int → List Int → List Int → List V → List Int → List Int → List Int → List V → List Bool → Int → (Bool → Option R) → Option R
def f51T {R : Type} (a2 a4 a6 a8 : List Int) (a10 : List V) (a12 a14 a16 : List Int) (a18 : List V) (a20 : List Bool) (a21 : Int) (kr : Bool → Option R) : Option R :=
 kr false
def f51 {R : Type} (M : Nat) (a2 a4 a6 a8 : List Int) (a10 : List V) (a12 a14 a16 : List Int) (a18 : List V) (a20 : List Bool) (a21 : Int) (kr : Bool → Option R) : Option R :=
  f51T a2 a4 a6 a8 a10 a12 a14 a16 a18 a20 a21 kr
abbrev T52 (R : Type) := List Int → List Int → List Int → List Int → List V → List Int → List Int → List Int → List V → List Bool → Int → List Bool → (Bool → Option R) → Option R
def f52T {R : Type} (a2 a4 a6 a8 : List Int) (a10 : List V) (a12 a14 a16 : List Int) (a18 : List V) (a20 : List Bool) (a21 : Int) (a23 : List Bool) (kr : Bool → Option R) : Option R :=
 kr false
def f52 {R : Type} (M : Nat) (a2 a4 a6 a8 : List Int) (a10 : List V) (a12 a14 a16 : List Int) (a18 : List V) (a20 : List Bool) (a21 : Int) (a23 : List Bool) (kr : Bool → Option R) : Option R :=
  f52T a2 a4 a6 a8 a10 a12 a14 a16 a18 a20 a21 a23 kr
abbrev T53 (R : Type) := List Int → List Int → List Int → List Int → List V → List Int → List Int → List Int → List V → List Bool → Int → List Bool → (Bool → Option R) → Option R
def f53T {R : Type} (p81 : T81 R) (a2 a4 a6 a8 : List Int) (a10 : List V) (a12 a14 a16 : List Int) (a18 : List V) (a20 : List Bool) (a21 : Int) (a23 : List Bool) (kr : Bool → Option R) : Option R :=
 gd (inR a21 a6.length) <|
 p81 (List.getD a6 (Int.toNat a21) 0) a23 (fun y24 =>
  kr y24)
def f53 {R : Type} (M : Nat) (a2 a4 a6 a8 : List Int) (a10 : List V) (a12 a14 a16 : List Int) (a18 : List V) (a20 : List Bool) (a21 : Int) (a23 : List Bool) (kr : Bool → Option R) : Option R :=
  f53T (f81 M) a2 a4 a6 a8 a10 a12 a14 a16 a18 a20 a21 a23 kr
abbrev T54 (R : Type) := List Int → List Int → List Int → List Int → List V → List Int → List Int → List Int → List V → List Bool → Int → (Bool → Option R) → Option R
def f54T {R : Type} (p55 : T55 R) (a2 a4 a6 a8 : List Int) (a10 : List V) (a12 a14 a16 : List Int) (a18 : List V) (a20 : List Bool) (a21 : Int) (kr : Bool → Option R) : Option R :=
 gd (inR a21 a8.length) <|
 gd (inR a21 a8.length) <|
 p55 a16 (quoI .i64 (List.getD a8 (Int.toNat a21) 0) 8) (remI (List.getD a8 (Int.toNat a21) 0) 8) (fun y22 =>
  kr y22)
def f54 {R : Type} (M : Nat) (a2 a4 a6 a8 : List Int) (a10 : List V) (a12 a14 a16 : List Int) (a18 : List V) (a20 : List Bool) (a21 : Int) (kr : Bool → Option R) : Option R :=
  f54T (f55 M) a2 a4 a6 a8 a10 a12 a14 a16 a18 a20 a21 kr
abbrev T56 (R : Type) := List Int → List Int → List Int → List Int → List V → List Int → List Int → List Int → List V → List Bool → Int → List Bool → (Bool → Option R) → Option R
abbrev Tf56L3 (R : Type) := List Int → List Int → List Int → List Int → List V → List Int → List Int → List Int → List V → List Bool → Int → Int → List Bool → Int → Int → Int → (Int → Int → Bool → Option R) → Option R
def f56L3 {R : Type} (x24 x25 x26 x27 : List Int) (x28 : List V) (x29 x30 x31 : List Int) (x32 : List V) (x33 : List Bool) (x34 x35 : Int) (x37 : List Bool) (x38 : Int) (k0 : Int → Int → Bool → Option R) (g0 : Int → Int → Option R) (x36 x39 : Int) : Option R :=
 bif (ltI x39 x38) then
  gd (inR x39 x37.length) <|
  bif (List.getD x37 (Int.toNat x39) false) then
   gd (posI x39) <|
   g0 (orI .i64 x36 (shlI .i64 1 x39)) (addI .i64 x39 1)
  else
  g0 x36 (addI .i64 x39 1)
 else
 k0 x36 x39 (ltI x39 x38)
def f56T {R : Type} (p55 : T55 R) (sf56L3 : Tf56L3 R) (a2 a4 a6 a8 : List Int) (a10 : List V) (a12 a14 a16 : List Int) (a18 : List V) (a20 : List Bool) (a21 : Int) (a23 : List Bool) (kr : Bool → Option R) : Option R :=
 gd (inR a21 a8.length) <|
 gd (inS 0 3 a23.length) <|
 sf56L3 a2 a4 a6 a8 a10 a12 a14 a16 a18 a20 a21 (quoI .i64 (List.getD a8 (Int.toNat a21) 0) 8) (List.take 3 a23) (lenI (List.take 3 a23).length) 0 0 (fun z51 z52 z53 =>
  bif (ltI (quoI .i64 (List.getD a8 (Int.toNat a21) 0) 8) (lenI a18.length)) then
   gd (inR (quoI .i64 (List.getD a8 (Int.toNat a21) 0) 8) a18.length) <|
   gd (inR a21 a8.length) <|
   p55 (V.toInts (V.cell (List.getD a18 (Int.toNat (quoI .i64 (List.getD a8 (Int.toNat a21) 0) 8)) .undef) 0)) z51 (remI (List.getD a8 (Int.toNat a21) 0) 8) (fun y54 =>
    kr y54)
  else
  kr false)
def f56L3S {R : Type} (M : Nat) (x24 x25 x26 x27 : List Int) (x28 : List V) (x29 x30 x31 : List Int) (x32 : List V) (x33 : List Bool) (x34 x35 : Int) (x37 : List Bool) (x38 x36 x39 : Int) (k0 : Int → Int → Bool → Option R) : Option R :=
  rounds (fun (g : Int × Int → Option R) (a : Int × Int) => f56L3 x24 x25 x26 x27 x28 x29 x30 x31 x32 x33 x34 x35 x37 x38 k0 (fun y0 y1 => g (y0, y1)) a.1 a.2) M (x36, x39)
def f56 {R : Type} (M : Nat) (a2 a4 a6 a8 : List Int) (a10 : List V) (a12 a14 a16 : List Int) (a18 : List V) (a20 : List Bool) (a21 : Int) (a23 : List Bool) (kr : Bool → Option R) : Option R :=
  f56T (f55 M) (f56L3S M) a2 a4 a6 a8 a10 a12 a14 a16 a18 a20 a21 a23 kr
def w55 (P : (R : Type) → T55 R) : Fk := fun R xs k => match xs with
  | [.ints _ .i64 a2, .int .i64 a3, .int .i64 a4] => P R a2 a3 a4 (fun y0 => k [.bool y0])
  | _ => none
def w51 (P : (R : Type) → T51 R) : Fk := fun R xs k => match xs with
  | [.ro [.ints _ .i64 a2, .ints _ .i64 a4, .ints _ .i64 a6, .ints _ .i64 a8, .vals _ 125 a10, .ints _ .i64 a12, .ints _ .i64 a14, .ints _ .i64 a16, .vals _ 29 a18, .bools _ a20], .int .i64 a21] => P R a2 a4 a6 a8 a10 a12 a14 a16 a18 a20 a21 (fun y0 => k [.bool y0])
  | _ => none
def w52 (P : (R : Type) → T52 R) : Fk := fun R xs k => match xs with
  | [.ro [.ints _ .i64 a2, .ints _ .i64 a4, .ints _ .i64 a6, .ints _ .i64 a8, .vals _ 125 a10, .ints _ .i64 a12, .ints _ .i64 a14, .ints _ .i64 a16, .vals _ 29 a18, .bools _ a20], .int .i64 a21, .bools _ a23] => P R a2 a4 a6 a8 a10 a12 a14 a16 a18 a20 a21 a23 (fun y0 => k [.bool y0])
  | _ => none
def w53 (P : (R : Type) → T53 R) : Fk := fun R xs k => match xs with
  | [.ro [.ints _ .i64 a2, .ints _ .i64 a4, .ints _ .i64 a6, .ints _ .i64 a8, .vals _ 125 a10, .ints _ .i64 a12, .ints _ .i64 a14, .ints _ .i64 a16, .vals _ 29 a18, .bools _ a20], .int .i64 a21, .bools _ a23] => P R a2 a4 a6 a8 a10 a12 a14 a16 a18 a20 a21 a23 (fun y0 => k [.bool y0])
  | _ => none
def w54 (P : (R : Type) → T54 R) : Fk := fun R xs k => match xs with
  | [.ro [.ints _ .i64 a2, .ints _ .i64 a4, .ints _ .i64 a6, .ints _ .i64 a8, .vals _ 125 a10, .ints _ .i64 a12, .ints _ .i64 a14, .ints _ .i64 a16, .vals _ 29 a18, .bools _ a20], .int .i64 a21] => P R a2 a4 a6 a8 a10 a12 a14 a16 a18 a20 a21 (fun y0 => k [.bool y0])
  | _ => none
def w56 (P : (R : Type) → T56 R) : Fk := fun R xs k => match xs with
  | [.ro [.ints _ .i64 a2, .ints _ .i64 a4, .ints _ .i64 a6, .ints _ .i64 a8, .vals _ 125 a10, .ints _ .i64 a12, .ints _ .i64 a14, .ints _ .i64 a16, .vals _ 29 a18, .bools _ a20], .int .i64 a21, .bools _ a23] => P R a2 a4 a6 a8 a10 a12 a14 a16 a18 a20 a21 a23 (fun y0 => k [.bool y0])
  | _ => none
abbrev qf56L30 (t40 t41 t42 t43 t44 t45 t46 t47 t48 t49 t50 : Tag) (p0 p1 p2 p3 : List Int) (p4 : List V) (p5 p6 p7 : List Int) (p8 : List V) (p9 : List Bool) (p10 p11 p12 : Int) (p13 : List Bool) (p14 p15 : Int) : St := { t := [(0, .ro [.ints t40 .i64 p0, .ints t41 .i64 p1, .ints t42 .i64 p2, .ints t43 .i64 p3, .vals t44 125 p4, .ints t45 .i64 p5, .ints t46 .i64 p6, .ints t47 .i64 p7, .vals t48 29 p8, .bools t49 p9]), (1, .int .i64 p10), (7, .int .i64 p11), (8, .int .i64 p12), (21, .bools t50 p13), (22, .int .i64 p14), (23, .int .i64 p15)], h := [], fz := [], nx := 0, lo := 0 }
abbrev ef56L30 (t40 t41 t42 t43 t44 t45 t46 t47 t48 t49 t50 : Tag) (p0 p1 p2 p3 : List Int) (p4 : List V) (p5 p6 p7 : List Int) (p8 : List V) (p9 : List Bool) (p10 p11 p12 : Int) (p13 : List Bool) (p14 p15 : Int) (p16 : Bool) : St := { t := [(0, .ro [.ints t40 .i64 p0, .ints t41 .i64 p1, .ints t42 .i64 p2, .ints t43 .i64 p3, .vals t44 125 p4, .ints t45 .i64 p5, .ints t46 .i64 p6, .ints t47 .i64 p7, .vals t48 29 p8, .bools t49 p9]), (1, .int .i64 p10), (7, .int .i64 p11), (8, .int .i64 p12), (21, .bools t50 p13), (22, .int .i64 p14), (23, .int .i64 p15), (24, .bool p16)], h := [], fz := [], nx := 0, lo := 0 }
def smf56L3 (S : (R : Type) → Tf56L3 R) (fb : LOT) : Sm := { d := 40, f := 56, r := 3, p := (qf56L30 .frz .frz .frz .frz .frz .frz .frz .frz .frz .frz .frz [] [] [] [] [] [] [] [] [] [] 0 0 0 [] 0 0), s := fun R l k => match l with
  | .ints t40 x24 :: .ints t41 x25 :: .ints t42 x26 :: .ints t43 x27 :: .vals t44 x28 :: .ints t45 x29 :: .ints t46 x30 :: .ints t47 x31 :: .vals t48 x32 :: .bools t49 x33 :: .int x34 :: .int x35 :: .int x36 :: .bools t50 x37 :: .int x38 :: .int x39 :: [] => S R x24 x25 x26 x27 x28 x29 x30 x31 x32 x33 x34 x35 x37 x38 x36 x39 (fun z0 z1 z2 => k (.exit 0) (ef56L30 t40 t41 t42 t43 t44 t45 t46 t47 t48 t49 t50 x24 x25 x26 x27 x28 x29 x30 x31 x32 x33 x34 x35 z0 x37 x38 z1 z2))
  | l => match fillS (qf56L30 .frz .frz .frz .frz .frz .frz .frz .frz .frz .frz .frz [] [] [] [] [] [] [] [] [] [] 0 0 0 [] 0 0) l with
    | some st => fb R 40 56 3 st k
    | none => none }
theorem f55_seg {R : Type} (LO : LOT) (k : List V → Option R) (t1 : Tag) (a2 : List Int) (a3 a4 : Int) :
    pureBodyLK env (callsL env (tabOf []) spG (LOs [] LO) [] 40) 55 ((LOs [] LO) R 40 55) [.ints t1 .i64 a2, .int .i64 a3, .int .i64 a4] k =
      f55T a2 a3 a4 (fun y0 => k [.bool y0]) := by kernel_rfl
theorem f51_seg {R : Type} (LO : LOT) (k : List V → Option R) (t1 t3 t5 t7 t9 t11 t13 t15 t17 t19 : Tag) (a2 a4 a6 a8 : List Int) (a10 : List V) (a12 a14 a16 : List Int) (a18 : List V) (a20 : List Bool) (a21 : Int) :
    pureBodyLK env (callsL env (tabOf []) spG (LOs [] LO) [] 40) 51 ((LOs [] LO) R 40 51) [.ro [.ints t1 .i64 a2, .ints t3 .i64 a4, .ints t5 .i64 a6, .ints t7 .i64 a8, .vals t9 125 a10, .ints t11 .i64 a12, .ints t13 .i64 a14, .ints t15 .i64 a16, .vals t17 29 a18, .bools t19 a20], .int .i64 a21] k =
      f51T a2 a4 a6 a8 a10 a12 a14 a16 a18 a20 a21 (fun y0 => k [.bool y0]) := by kernel_rfl
theorem f52_seg {R : Type} (LO : LOT) (k : List V → Option R) (t1 t3 t5 t7 t9 t11 t13 t15 t17 t19 t22 : Tag) (a2 a4 a6 a8 : List Int) (a10 : List V) (a12 a14 a16 : List Int) (a18 : List V) (a20 : List Bool) (a21 : Int) (a23 : List Bool) :
    pureBodyLK env (callsL env (tabOf []) spG (LOs [] LO) [] 40) 52 ((LOs [] LO) R 40 52) [.ro [.ints t1 .i64 a2, .ints t3 .i64 a4, .ints t5 .i64 a6, .ints t7 .i64 a8, .vals t9 125 a10, .ints t11 .i64 a12, .ints t13 .i64 a14, .ints t15 .i64 a16, .vals t17 29 a18, .bools t19 a20], .int .i64 a21, .bools t22 a23] k =
      f52T a2 a4 a6 a8 a10 a12 a14 a16 a18 a20 a21 a23 (fun y0 => k [.bool y0]) := by kernel_rfl
theorem f53_seg {R : Type} (P81 : (R : Type) → T81 R) (LO : LOT) (k : List V → Option R) (t1 t3 t5 t7 t9 t11 t13 t15 t17 t19 t22 : Tag) (a2 a4 a6 a8 : List Int) (a10 : List V) (a12 a14 a16 : List Int) (a18 : List V) (a20 : List Bool) (a21 : Int) (a23 : List Bool) :
    pureBodyLK env (callsL env (tabOf [(81, w81 P81)]) spG (LOs [] LO) [] 40) 53 ((LOs [] LO) R 40 53) [.ro [.ints t1 .i64 a2, .ints t3 .i64 a4, .ints t5 .i64 a6, .ints t7 .i64 a8, .vals t9 125 a10, .ints t11 .i64 a12, .ints t13 .i64 a14, .ints t15 .i64 a16, .vals t17 29 a18, .bools t19 a20], .int .i64 a21, .bools t22 a23] k =
      f53T (P81 R) a2 a4 a6 a8 a10 a12 a14 a16 a18 a20 a21 a23 (fun y0 => k [.bool y0]) := by kernel_rfl
theorem f54_seg {R : Type} (P55 : (R : Type) → T55 R) (LO : LOT) (k : List V → Option R) (t1 t3 t5 t7 t9 t11 t13 t15 t17 t19 : Tag) (a2 a4 a6 a8 : List Int) (a10 : List V) (a12 a14 a16 : List Int) (a18 : List V) (a20 : List Bool) (a21 : Int) :
    pureBodyLK env (callsL env (tabOf [(55, w55 P55)]) spG (LOs [] LO) [] 40) 54 ((LOs [] LO) R 40 54) [.ro [.ints t1 .i64 a2, .ints t3 .i64 a4, .ints t5 .i64 a6, .ints t7 .i64 a8, .vals t9 125 a10, .ints t11 .i64 a12, .ints t13 .i64 a14, .ints t15 .i64 a16, .vals t17 29 a18, .bools t19 a20], .int .i64 a21] k =
      f54T (P55 R) a2 a4 a6 a8 a10 a12 a14 a16 a18 a20 a21 (fun y0 => k [.bool y0]) := by kernel_rfl
theorem f56L3_seg {R : Type} (P55 : (R : Type) → T55 R) (LO : LOT) (g : St → Option R) (k : Ex → St → Option R) (t40 t41 t42 t43 t44 t45 t46 t47 t48 t49 t50 : Tag) (x24 x25 x26 x27 : List Int) (x28 : List V) (x29 x30 x31 : List Int) (x32 : List V) (x33 : List Bool) (x34 x35 : Int) (x37 : List Bool) (x38 x36 x39 : Int) :
    execL env (callsL env (tabOf [(55, w55 P55)]) spG (LOs [] LO) [] 40) 56 ((LOs [] LO) R 40 56) ((loopOf env 56 3).getD .skip) (qf56L30 t40 t41 t42 t43 t44 t45 t46 t47 t48 t49 t50 x24 x25 x26 x27 x28 x29 x30 x31 x32 x33 x34 x35 x36 x37 x38 x39) (bodyK env 56 3 g k) =
      f56L3 x24 x25 x26 x27 x28 x29 x30 x31 x32 x33 x34 x35 x37 x38 (fun z0 z1 z2 => k (.exit 0) (ef56L30 t40 t41 t42 t43 t44 t45 t46 t47 t48 t49 t50 x24 x25 x26 x27 x28 x29 x30 x31 x32 x33 x34 x35 z0 x37 x38 z1 z2)) (fun y0 y1 => g (qf56L30 t40 t41 t42 t43 t44 t45 t46 t47 t48 t49 t50 x24 x25 x26 x27 x28 x29 x30 x31 x32 x33 x34 x35 y0 x37 x38 y1)) x36 x39 := by kernel_rfl
theorem f56_seg {R : Type} (P55 : (R : Type) → T55 R) (Sf56L3 : (R : Type) → Tf56L3 R) (LO : LOT) (k : List V → Option R) (t1 t3 t5 t7 t9 t11 t13 t15 t17 t19 t22 : Tag) (a2 a4 a6 a8 : List Int) (a10 : List V) (a12 a14 a16 : List Int) (a18 : List V) (a20 : List Bool) (a21 : Int) (a23 : List Bool) :
    pureBodyLK env (callsL env (tabOf [(55, w55 P55)]) spG (LOs [smf56L3 Sf56L3 LO] LO) [] 40) 56 ((LOs [smf56L3 Sf56L3 LO] LO) R 40 56) [.ro [.ints t1 .i64 a2, .ints t3 .i64 a4, .ints t5 .i64 a6, .ints t7 .i64 a8, .vals t9 125 a10, .ints t11 .i64 a12, .ints t13 .i64 a14, .ints t15 .i64 a16, .vals t17 29 a18, .bools t19 a20], .int .i64 a21, .bools t22 a23] k =
      f56T (P55 R) (Sf56L3 R) a2 a4 a6 a8 a10 a12 a14 a16 a18 a20 a21 a23 (fun y0 => k [.bool y0]) := by kernel_rfl
end Go.Vm.T3
