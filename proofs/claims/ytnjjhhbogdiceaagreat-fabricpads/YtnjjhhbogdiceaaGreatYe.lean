/-
  A part of the proof that FabricPads answers true at every input. No condition.
-/
import Derived.Test.YtnjjhhbogdiceaaGreatYd
set_option linter.unusedVariables false
set_option maxRecDepth 100000
namespace Go.Vm.T3
open Go Go.Vm
abbrev T63 (R : Type) := List Int → List Int → List Int → List Int → List V → List Int → List Int → List Int → List V → List Bool → List Bool → (List Bool → Option R) → Option R
abbrev Tf63L4 (R : Type) := List Int → List Int → List Int → List Int → List V → List Int → List Int → List Int → List V → List Bool → List Bool → List V → Int → Int → Int → Int → Int → Int → List Bool → (Int → Bool → List Bool → Option R) → Option R
def f63L4 {R : Type} (x23 x24 x25 x26 : List Int) (x27 : List V) (x28 x29 x30 : List Int) (x31 : List V) (x32 x33 : List Bool) (x34 : List V) (x35 x37 x38 x39 x40 : Int) (k0 : Int → Bool → List Bool → Option R) (g0 : Int → List Bool → Option R) (x36 : Int) (x41 : List Bool) : Option R :=
 bif (ltI x36 x35) then
  gd (inR x36 x34.length) <|
  bif (eqI (V.toInt (V.cell (List.getD x34 (Int.toNat x36) .undef) 0)) 6) then
   bif (ltI (V.toInt (V.cell (List.getD x34 (Int.toNat x36) .undef) 3)) (lenI x32.length)) then
    gd (inR (V.toInt (V.cell (List.getD x34 (Int.toNat x36) .undef) 3)) x32.length) <|
    gd (inR x36 x41.length) <|
    g0 (addI .i64 x36 1) (List.set x41 (Int.toNat x36) (List.getD x32 (Int.toNat (V.toInt (V.cell (List.getD x34 (Int.toNat x36) .undef) 3))) false))
   else
   gd (inR x36 x41.length) <|
   g0 (addI .i64 x36 1) (List.set x41 (Int.toNat x36) false)
  else
  bif (eqI (V.toInt (V.cell (List.getD x34 (Int.toNat x36) .undef) 0)) 1) then
   bif (eqI (V.toInt (V.cell (List.getD x34 (Int.toNat x36) .undef) 0)) 1) then
    g0 (addI .i64 x36 1) x41
   else
   gd (inR x36 x29.length) <|
   bif (leI 0 (List.getD x29 (Int.toNat x36) 0)) then
    gd (inR x36 x29.length) <|
    gd (inR (List.getD x29 (Int.toNat x36) 0) x33.length) <|
    gd (inR x36 x41.length) <|
    g0 (addI .i64 x36 1) (List.set x41 (Int.toNat x36) (List.getD x33 (Int.toNat (List.getD x29 (Int.toNat x36) 0)) false))
   else
   gd (inR x36 x41.length) <|
   g0 (addI .i64 x36 1) (List.set x41 (Int.toNat x36) false)
  else
  bif (eqI (V.toInt (V.cell (List.getD x34 (Int.toNat x36) .undef) 0)) 2) then
   g0 (addI .i64 x36 1) x41
  else
  gd (inR x36 x29.length) <|
  bif (leI 0 (List.getD x29 (Int.toNat x36) 0)) then
   gd (inR x36 x29.length) <|
   gd (inR (List.getD x29 (Int.toNat x36) 0) x33.length) <|
   gd (inR x36 x41.length) <|
   g0 (addI .i64 x36 1) (List.set x41 (Int.toNat x36) (List.getD x33 (Int.toNat (List.getD x29 (Int.toNat x36) 0)) false))
  else
  gd (inR x36 x41.length) <|
  g0 (addI .i64 x36 1) (List.set x41 (Int.toNat x36) false)
 else
 k0 x36 (ltI x36 x35) x41
abbrev Tf63L14 (R : Type) := List Int → List Int → List Int → List Int → List V → List Int → List Int → List Int → List V → List Bool → List Bool → List Int → Int → Int → Int → Int → Int → Int → List Bool → (Int → Bool → List Bool → Option R) → Option R
def f63L14 {R : Type} (p51 : T51 R) (p52 : T52 R) (p53 : T53 R) (p54 : T54 R) (p56 : T56 R) (x57 x58 x59 x60 : List Int) (x61 : List V) (x62 x63 x64 : List Int) (x65 : List V) (x66 x67 : List Bool) (x68 : List Int) (x69 x71 x72 x73 x74 : Int) (k0 : Int → Bool → List Bool → Option R) (g0 : Int → List Bool → Option R) (x70 : Int) (x75 : List Bool) : Option R :=
 bif (ltI x70 x69) then
  gd (inR x70 x68.length) <|
  gd (inR x70 x58.length) <|
  bif (eqI (List.getD x58 (Int.toNat x70) 0) 0) then
   gd (inS (addI .i64 (List.getD x68 (Int.toNat x70) 0) 2) (addI .i64 (addI .i64 (List.getD x68 (Int.toNat x70) 0) 2) 4) x67.length) <|
   p52 x57 x58 x59 x60 x61 x62 x63 x64 x65 x66 x70 (List.take ((Int.toNat (addI .i64 (addI .i64 (List.getD x68 (Int.toNat x70) 0) 2) 4)) - (Int.toNat (addI .i64 (List.getD x68 (Int.toNat x70) 0) 2))) (List.drop (Int.toNat (addI .i64 (List.getD x68 (Int.toNat x70) 0) 2)) x67)) (fun y88 =>
    p51 x57 x58 x59 x60 x61 x62 x63 x64 x65 x66 x70 (fun y89 =>
     gd (inR (List.getD x68 (Int.toNat x70) 0) x75.length) <|
     gd (inR (addI .i64 (List.getD x68 (Int.toNat x70) 0) 1) (List.set x75 (Int.toNat (List.getD x68 (Int.toNat x70) 0)) y88).length) <|
     g0 (addI .i64 x70 1) (List.set (List.set x75 (Int.toNat (List.getD x68 (Int.toNat x70) 0)) y88) (Int.toNat (addI .i64 (List.getD x68 (Int.toNat x70) 0) 1)) y89)))
  else
  bif (eqI (List.getD x58 (Int.toNat x70) 0) 1) then
   gd (inS (addI .i64 (List.getD x68 (Int.toNat x70) 0) 2) (addI .i64 (addI .i64 (List.getD x68 (Int.toNat x70) 0) 2) 4) x67.length) <|
   p53 x57 x58 x59 x60 x61 x62 x63 x64 x65 x66 x70 (List.take ((Int.toNat (addI .i64 (addI .i64 (List.getD x68 (Int.toNat x70) 0) 2) 4)) - (Int.toNat (addI .i64 (List.getD x68 (Int.toNat x70) 0) 2))) (List.drop (Int.toNat (addI .i64 (List.getD x68 (Int.toNat x70) 0) 2)) x67)) (fun y90 =>
    p51 x57 x58 x59 x60 x61 x62 x63 x64 x65 x66 x70 (fun y91 =>
     gd (inR (List.getD x68 (Int.toNat x70) 0) x75.length) <|
     gd (inR (addI .i64 (List.getD x68 (Int.toNat x70) 0) 1) (List.set x75 (Int.toNat (List.getD x68 (Int.toNat x70) 0)) y90).length) <|
     g0 (addI .i64 x70 1) (List.set (List.set x75 (Int.toNat (List.getD x68 (Int.toNat x70) 0)) y90) (Int.toNat (addI .i64 (List.getD x68 (Int.toNat x70) 0) 1)) y91)))
  else
  bif (eqI (List.getD x58 (Int.toNat x70) 0) 2) then
   gd (inS (addI .i64 (List.getD x68 (Int.toNat x70) 0) 2) (addI .i64 (addI .i64 (List.getD x68 (Int.toNat x70) 0) 2) 4) x67.length) <|
   p53 x57 x58 x59 x60 x61 x62 x63 x64 x65 x66 x70 (List.take ((Int.toNat (addI .i64 (addI .i64 (List.getD x68 (Int.toNat x70) 0) 2) 4)) - (Int.toNat (addI .i64 (List.getD x68 (Int.toNat x70) 0) 2))) (List.drop (Int.toNat (addI .i64 (List.getD x68 (Int.toNat x70) 0) 2)) x67)) (fun y92 =>
    p54 x57 x58 x59 x60 x61 x62 x63 x64 x65 x66 x70 (fun y93 =>
     gd (inR (List.getD x68 (Int.toNat x70) 0) x75.length) <|
     gd (inR (addI .i64 (List.getD x68 (Int.toNat x70) 0) 1) (List.set x75 (Int.toNat (List.getD x68 (Int.toNat x70) 0)) y92).length) <|
     g0 (addI .i64 x70 1) (List.set (List.set x75 (Int.toNat (List.getD x68 (Int.toNat x70) 0)) y92) (Int.toNat (addI .i64 (List.getD x68 (Int.toNat x70) 0) 1)) y93)))
  else
  gd (eqI (List.getD x58 (Int.toNat x70) 0) 3) <|
  gd (inS (addI .i64 (List.getD x68 (Int.toNat x70) 0) 2) (addI .i64 (addI .i64 (List.getD x68 (Int.toNat x70) 0) 2) 4) x67.length) <|
  p56 x57 x58 x59 x60 x61 x62 x63 x64 x65 x66 x70 (List.take ((Int.toNat (addI .i64 (addI .i64 (List.getD x68 (Int.toNat x70) 0) 2) 4)) - (Int.toNat (addI .i64 (List.getD x68 (Int.toNat x70) 0) 2))) (List.drop (Int.toNat (addI .i64 (List.getD x68 (Int.toNat x70) 0) 2)) x67)) (fun y94 =>
   p51 x57 x58 x59 x60 x61 x62 x63 x64 x65 x66 x70 (fun y95 =>
    gd (inR (List.getD x68 (Int.toNat x70) 0) x75.length) <|
    gd (inR (addI .i64 (List.getD x68 (Int.toNat x70) 0) 1) (List.set x75 (Int.toNat (List.getD x68 (Int.toNat x70) 0)) y94).length) <|
    g0 (addI .i64 x70 1) (List.set (List.set x75 (Int.toNat (List.getD x68 (Int.toNat x70) 0)) y94) (Int.toNat (addI .i64 (List.getD x68 (Int.toNat x70) 0) 1)) y95)))
 else
 k0 x70 (ltI x70 x69) x75
def f63T {R : Type} (sf63L4 : Tf63L4 R) (sf63L14 : Tf63L14 R) (a2 a4 a6 a8 : List Int) (a10 : List V) (a12 a14 a16 : List Int) (a18 : List V) (a20 a22 : List Bool) (kr : List Bool → Option R) : Option R :=
 gd (inS 0 (lenI a22.length) lim) <|
 sf63L4 a2 a4 a6 a8 a10 a12 a14 a16 a18 a20 a22 a10 (lenI a10.length) 0 4 4 3 0 (List.replicate (Int.toNat (lenI a22.length)) false) (fun z54 z55 z56 =>
  sf63L14 a2 a4 a6 a8 a10 a12 a14 a16 a18 a20 a22 a12 (lenI a12.length) 0 4 4 3 0 z56 (fun z96 z97 z98 =>
   kr z98))
def f63L4S {R : Type} (M : Nat) (x23 x24 x25 x26 : List Int) (x27 : List V) (x28 x29 x30 : List Int) (x31 : List V) (x32 x33 : List Bool) (x34 : List V) (x35 x37 x38 x39 x40 x36 : Int) (x41 : List Bool) (k0 : Int → Bool → List Bool → Option R) : Option R :=
  rounds (fun (g : Int × (List Bool) → Option R) (a : Int × (List Bool)) => f63L4 x23 x24 x25 x26 x27 x28 x29 x30 x31 x32 x33 x34 x35 x37 x38 x39 x40 k0 (fun y0 y1 => g (y0, y1)) a.1 a.2) M (x36, x41)
def f63L14S {R : Type} (M : Nat) (x57 x58 x59 x60 : List Int) (x61 : List V) (x62 x63 x64 : List Int) (x65 : List V) (x66 x67 : List Bool) (x68 : List Int) (x69 x71 x72 x73 x74 x70 : Int) (x75 : List Bool) (k0 : Int → Bool → List Bool → Option R) : Option R :=
  rounds (fun (g : Int × (List Bool) → Option R) (a : Int × (List Bool)) => f63L14 (f51 M) (f52 M) (f53 M) (f54 M) (f56 M) x57 x58 x59 x60 x61 x62 x63 x64 x65 x66 x67 x68 x69 x71 x72 x73 x74 k0 (fun y0 y1 => g (y0, y1)) a.1 a.2) M (x70, x75)
def f63 {R : Type} (M : Nat) (a2 a4 a6 a8 : List Int) (a10 : List V) (a12 a14 a16 : List Int) (a18 : List V) (a20 a22 : List Bool) (kr : List Bool → Option R) : Option R :=
  f63T (f63L4S M) (f63L14S M) a2 a4 a6 a8 a10 a12 a14 a16 a18 a20 a22 kr
abbrev T62 (R : Type) := List Bool → List Bool → (Bool → Option R) → Option R
abbrev Tf62L4 (R : Type) := List Bool → List Bool → Int → Int → (Bool → Int → Int → Bool → Bool → Option R) → (Int → Bool → Option R) → Option R
def f62L4 {R : Type} (x5 x6 : List Bool) (x7 : Int) (k0 : Bool → Int → Int → Bool → Bool → Option R) (k1 : Int → Bool → Option R) (g0 : Int → Option R) (x8 : Int) : Option R :=
 bif (ltI x8 x7) then
  gd (inR x8 x5.length) <|
  gd (inR x8 x6.length) <|
  bif (neB (List.getD x5 (Int.toNat x8) false) (List.getD x6 (Int.toNat x8) false)) then
   k0 false x8 x8 (ltI x8 x7) (neB (List.getD x5 (Int.toNat x8) false) (List.getD x6 (Int.toNat x8) false))
  else
  g0 (addI .i64 x8 1)
 else
 k1 x8 (ltI x8 x7)
def f62T {R : Type} (sf62L4 : Tf62L4 R) (a2 a4 : List Bool) (kr : Bool → Option R) : Option R :=
 bif (neI (lenI a2.length) (lenI a4.length)) then
  kr false
 else
 sf62L4 a2 a4 (lenI a2.length) 0 (fun z11 z12 z13 z14 z15 =>
  kr z11) (fun z16 z17 =>
  kr true)
def f62L4S {R : Type} (M : Nat) (x5 x6 : List Bool) (x7 x8 : Int) (k0 : Bool → Int → Int → Bool → Bool → Option R) (k1 : Int → Bool → Option R) : Option R :=
  rounds (fun (g : Int → Option R) (a : Int) => f62L4 x5 x6 x7 k0 k1 (fun y0 => g y0) a) M x8
def f62 {R : Type} (M : Nat) (a2 a4 : List Bool) (kr : Bool → Option R) : Option R :=
  f62T (f62L4S M) a2 a4 kr
abbrev T61 (R : Type) := List Int → List Int → List Int → List Int → List V → List Int → List Int → List Int → List V → List Bool → (List Bool → Option R) → Option R
abbrev Tf61L3 (R : Type) := List Int → List Int → List Int → List Int → List V → List Int → List Int → List Int → List V → List Bool → Int → Int → List Bool → (Int → Bool → Bool → List Bool → List Bool → Option R) → (Int → Bool → List Bool → Option R) → Option R
def f61L3 {R : Type} (p62 : T62 R) (p63 : T63 R) (x21 x22 x23 x24 : List Int) (x25 : List V) (x26 x27 x28 : List Int) (x29 : List V) (x30 : List Bool) (x31 : Int) (k0 : Int → Bool → Bool → List Bool → List Bool → Option R) (k1 : Int → Bool → List Bool → Option R) (g0 : Int → List Bool → Option R) (x32 : Int) (x33 : List Bool) : Option R :=
 bif (ltI x32 x31) then
  p63 x21 x22 x23 x24 x25 x26 x27 x28 x29 x30 x33 (fun y44 =>
   p62 y44 x33 (fun y45 =>
    bif y45 then
     k0 x32 (ltI x32 x31) y45 x33 y44
    else
    g0 (addI .i64 x32 1) y44))
 else
 k1 x32 (ltI x32 x31) x33
def f61T {R : Type} (sf61L3 : Tf61L3 R) (a2 a4 a6 a8 : List Int) (a10 : List V) (a12 a14 a16 : List Int) (a18 : List V) (a20 : List Bool) (kr : List Bool → Option R) : Option R :=
 gd (inS 0 (lenI a10.length) lim) <|
 sf61L3 a2 a4 a6 a8 a10 a12 a14 a16 a18 a20 (lenI a10.length) 0 (List.replicate (Int.toNat (lenI a10.length)) false) (fun z46 z47 z48 z49 z50 =>
  kr z49) (fun z51 z52 z53 =>
  kr z53)
def f61L3S {R : Type} (M : Nat) (x21 x22 x23 x24 : List Int) (x25 : List V) (x26 x27 x28 : List Int) (x29 : List V) (x30 : List Bool) (x31 x32 : Int) (x33 : List Bool) (k0 : Int → Bool → Bool → List Bool → List Bool → Option R) (k1 : Int → Bool → List Bool → Option R) : Option R :=
  rounds (fun (g : Int × (List Bool) → Option R) (a : Int × (List Bool)) => f61L3 (f62 M) (f63 M) x21 x22 x23 x24 x25 x26 x27 x28 x29 x30 x31 k0 k1 (fun y0 y1 => g (y0, y1)) a.1 a.2) M (x32, x33)
def f61 {R : Type} (M : Nat) (a2 a4 a6 a8 : List Int) (a10 : List V) (a12 a14 a16 : List Int) (a18 : List V) (a20 : List Bool) (kr : List Bool → Option R) : Option R :=
  f61T (f61L3S M) a2 a4 a6 a8 a10 a12 a14 a16 a18 a20 kr
def w63 (P : (R : Type) → T63 R) : Fk := fun R xs k => match xs with
  | [.ro [.ints _ .i64 a2, .ints _ .i64 a4, .ints _ .i64 a6, .ints _ .i64 a8, .vals _ 125 a10, .ints _ .i64 a12, .ints _ .i64 a14, .ints _ .i64 a16, .vals _ 29 a18, .bools _ a20], .bools _ a22] => P R a2 a4 a6 a8 a10 a12 a14 a16 a18 a20 a22 (fun y0 => k [.bools .new y0])
  | _ => none
abbrev qf63L40 (t42 t43 t44 t45 t46 t47 t48 t49 t50 t51 t52 t53 : Tag) (p0 p1 p2 p3 : List Int) (p4 : List V) (p5 p6 p7 : List Int) (p8 : List V) (p9 p10 : List Bool) (p11 : List V) (p12 p13 p14 p15 p16 p17 : Int) (p18 : List Bool) : St := { t := [(0, .ro [.ints t42 .i64 p0, .ints t43 .i64 p1, .ints t44 .i64 p2, .ints t45 .i64 p3, .vals t46 125 p4, .ints t47 .i64 p5, .ints t48 .i64 p6, .ints t49 .i64 p7, .vals t50 29 p8, .bools t51 p9]), (1, .bools t52 p10), (5, .ptr 0 0), (6, .own 1), (19, .vals t53 125 p11), (20, .int .i64 p12), (21, .int .i64 p13)], h := [(0, .cells [.fn 52 [] [], .fn 51 [] [], .int .i64 p14, .fn 53 [] [], .fn 51 [] [], .int .i64 p15, .fn 53 [] [], .fn 54 [] [], .int .i64 p16, .fn 56 [] [], .fn 51 [] [], .int .i64 p17]), (1, .bools p18)], fz := [], nx := 2, lo := 0 }
abbrev ef63L40 (t42 t43 t44 t45 t46 t47 t48 t49 t50 t51 t52 t53 : Tag) (p0 p1 p2 p3 : List Int) (p4 : List V) (p5 p6 p7 : List Int) (p8 : List V) (p9 p10 : List Bool) (p11 : List V) (p12 p13 : Int) (p14 : Bool) (p15 p16 p17 p18 : Int) (p19 : List Bool) : St := { t := [(0, .ro [.ints t42 .i64 p0, .ints t43 .i64 p1, .ints t44 .i64 p2, .ints t45 .i64 p3, .vals t46 125 p4, .ints t47 .i64 p5, .ints t48 .i64 p6, .ints t49 .i64 p7, .vals t50 29 p8, .bools t51 p9]), (1, .bools t52 p10), (5, .ptr 0 0), (6, .own 1), (19, .vals t53 125 p11), (20, .int .i64 p12), (21, .int .i64 p13), (22, .bool p14)], h := [(0, .cells [.fn 52 [] [], .fn 51 [] [], .int .i64 p15, .fn 53 [] [], .fn 51 [] [], .int .i64 p16, .fn 53 [] [], .fn 54 [] [], .int .i64 p17, .fn 56 [] [], .fn 51 [] [], .int .i64 p18]), (1, .bools p19)], fz := [], nx := 2, lo := 0 }
def smf63L4 (S : (R : Type) → Tf63L4 R) (fb : LOT) : Sm := { d := 40, f := 63, r := 4, p := (qf63L40 .frz .frz .frz .frz .frz .frz .frz .frz .frz .frz .frz .frz [] [] [] [] [] [] [] [] [] [] [] [] 0 0 0 0 0 0 []), s := fun R l k => match l with
  | .ints t42 x23 :: .ints t43 x24 :: .ints t44 x25 :: .ints t45 x26 :: .vals t46 x27 :: .ints t47 x28 :: .ints t48 x29 :: .ints t49 x30 :: .vals t50 x31 :: .bools t51 x32 :: .bools t52 x33 :: .vals t53 x34 :: .int x35 :: .int x36 :: .int x37 :: .int x38 :: .int x39 :: .int x40 :: .bools _ x41 :: [] => S R x23 x24 x25 x26 x27 x28 x29 x30 x31 x32 x33 x34 x35 x37 x38 x39 x40 x36 x41 (fun z0 z1 z2 => k (.exit 0) (ef63L40 t42 t43 t44 t45 t46 t47 t48 t49 t50 t51 t52 t53 x23 x24 x25 x26 x27 x28 x29 x30 x31 x32 x33 x34 x35 z0 z1 x37 x38 x39 x40 z2))
  | l => match fillS (qf63L40 .frz .frz .frz .frz .frz .frz .frz .frz .frz .frz .frz .frz [] [] [] [] [] [] [] [] [] [] [] [] 0 0 0 0 0 0 []) l with
    | some st => fb R 40 63 4 st k
    | none => none }
abbrev qf63L140 (t76 t77 t78 t79 t80 t81 t82 t83 t84 t85 t86 t87 : Tag) (p0 p1 p2 p3 : List Int) (p4 : List V) (p5 p6 p7 : List Int) (p8 : List V) (p9 p10 : List Bool) (p11 : List Int) (p12 p13 p14 p15 p16 p17 : Int) (p18 : List Bool) : St := { t := [(0, .ro [.ints t76 .i64 p0, .ints t77 .i64 p1, .ints t78 .i64 p2, .ints t79 .i64 p3, .vals t80 125 p4, .ints t81 .i64 p5, .ints t82 .i64 p6, .ints t83 .i64 p7, .vals t84 29 p8, .bools t85 p9]), (1, .bools t86 p10), (5, .ptr 0 0), (6, .own 1), (81, .ints t87 .i64 p11), (82, .int .i64 p12), (83, .int .i64 p13)], h := [(0, .cells [.fn 52 [] [], .fn 51 [] [], .int .i64 p14, .fn 53 [] [], .fn 51 [] [], .int .i64 p15, .fn 53 [] [], .fn 54 [] [], .int .i64 p16, .fn 56 [] [], .fn 51 [] [], .int .i64 p17]), (1, .bools p18)], fz := [], nx := 2, lo := 0 }
abbrev ef63L140 (t76 t77 t78 t79 t80 t81 t82 t83 t84 t85 t86 t87 : Tag) (p0 p1 p2 p3 : List Int) (p4 : List V) (p5 p6 p7 : List Int) (p8 : List V) (p9 p10 : List Bool) (p11 : List Int) (p12 p13 : Int) (p14 : Bool) (p15 p16 p17 p18 : Int) (p19 : List Bool) : St := { t := [(0, .ro [.ints t76 .i64 p0, .ints t77 .i64 p1, .ints t78 .i64 p2, .ints t79 .i64 p3, .vals t80 125 p4, .ints t81 .i64 p5, .ints t82 .i64 p6, .ints t83 .i64 p7, .vals t84 29 p8, .bools t85 p9]), (1, .bools t86 p10), (5, .ptr 0 0), (6, .own 1), (81, .ints t87 .i64 p11), (82, .int .i64 p12), (83, .int .i64 p13), (84, .bool p14)], h := [(0, .cells [.fn 52 [] [], .fn 51 [] [], .int .i64 p15, .fn 53 [] [], .fn 51 [] [], .int .i64 p16, .fn 53 [] [], .fn 54 [] [], .int .i64 p17, .fn 56 [] [], .fn 51 [] [], .int .i64 p18]), (1, .bools p19)], fz := [], nx := 2, lo := 0 }
def smf63L14 (S : (R : Type) → Tf63L14 R) (fb : LOT) : Sm := { d := 40, f := 63, r := 14, p := (qf63L140 .frz .frz .frz .frz .frz .frz .frz .frz .frz .frz .frz .frz [] [] [] [] [] [] [] [] [] [] [] [] 0 0 0 0 0 0 []), s := fun R l k => match l with
  | .ints t76 x57 :: .ints t77 x58 :: .ints t78 x59 :: .ints t79 x60 :: .vals t80 x61 :: .ints t81 x62 :: .ints t82 x63 :: .ints t83 x64 :: .vals t84 x65 :: .bools t85 x66 :: .bools t86 x67 :: .ints t87 x68 :: .int x69 :: .int x70 :: .int x71 :: .int x72 :: .int x73 :: .int x74 :: .bools _ x75 :: [] => S R x57 x58 x59 x60 x61 x62 x63 x64 x65 x66 x67 x68 x69 x71 x72 x73 x74 x70 x75 (fun z0 z1 z2 => k (.exit 3) (ef63L140 t76 t77 t78 t79 t80 t81 t82 t83 t84 t85 t86 t87 x57 x58 x59 x60 x61 x62 x63 x64 x65 x66 x67 x68 x69 z0 z1 x71 x72 x73 x74 z2))
  | l => match fillS (qf63L140 .frz .frz .frz .frz .frz .frz .frz .frz .frz .frz .frz .frz [] [] [] [] [] [] [] [] [] [] [] [] 0 0 0 0 0 0 []) l with
    | some st => fb R 40 63 14 st k
    | none => none }
def w62 (P : (R : Type) → T62 R) : Fk := fun R xs k => match xs with
  | [.bools _ a2, .bools _ a4] => P R a2 a4 (fun y0 => k [.bool y0])
  | _ => none
abbrev qf62L40 (t10 t9 : Tag) (p0 p1 : List Bool) (p2 p3 : Int) : St := { t := [(0, .bools t9 p0), (1, .bools t10 p1), (12, .int .i64 p2), (13, .int .i64 p3)], h := [], fz := [], nx := 0, lo := 0 }
abbrev ef62L40 (t10 t9 : Tag) (p0 p1 : List Bool) (p2 : Bool) (p3 p4 p5 : Int) (p6 p7 : Bool) : St := { t := [(0, .bools t9 p0), (1, .bools t10 p1), (4, .bool p2), (5, .int .i64 p3), (12, .int .i64 p4), (13, .int .i64 p5), (14, .bool p6), (24, .bool p7)], h := [], fz := [], nx := 0, lo := 0 }
abbrev ef62L41 (t10 t9 : Tag) (p0 p1 : List Bool) (p2 p3 : Int) (p4 : Bool) : St := { t := [(0, .bools t9 p0), (1, .bools t10 p1), (12, .int .i64 p2), (13, .int .i64 p3), (14, .bool p4)], h := [], fz := [], nx := 0, lo := 0 }
def smf62L4 (S : (R : Type) → Tf62L4 R) (fb : LOT) : Sm := { d := 40, f := 62, r := 4, p := (qf62L40 .frz .frz [] [] 0 0), s := fun R l k => match l with
  | .bools t9 x5 :: .bools t10 x6 :: .int x7 :: .int x8 :: [] => S R x5 x6 x7 x8 (fun z0 z1 z2 z3 z4 => k .ret (ef62L40 t10 t9 x5 x6 z0 z1 x7 z2 z3 z4)) (fun z0 z1 => k (.exit 0) (ef62L41 t10 t9 x5 x6 x7 z0 z1))
  | l => match fillS (qf62L40 .frz .frz [] [] 0 0) l with
    | some st => fb R 40 62 4 st k
    | none => none }
def w61 (P : (R : Type) → T61 R) : Fk := fun R xs k => match xs with
  | [.ro [.ints _ .i64 a2, .ints _ .i64 a4, .ints _ .i64 a6, .ints _ .i64 a8, .vals _ 125 a10, .ints _ .i64 a12, .ints _ .i64 a14, .ints _ .i64 a16, .vals _ 29 a18, .bools _ a20]] => P R a2 a4 a6 a8 a10 a12 a14 a16 a18 a20 (fun y0 => k [.bools .new y0])
  | _ => none
abbrev qf61L30 (t34 t35 t36 t37 t38 t39 t40 t41 t42 t43 : Tag) (p0 p1 p2 p3 : List Int) (p4 : List V) (p5 p6 p7 : List Int) (p8 : List V) (p9 : List Bool) (p10 p11 : Int) (p12 : List Bool) : St := { t := [(0, .ro [.ints t34 .i64 p0, .ints t35 .i64 p1, .ints t36 .i64 p2, .ints t37 .i64 p3, .vals t38 125 p4, .ints t39 .i64 p5, .ints t40 .i64 p6, .ints t41 .i64 p7, .vals t42 29 p8, .bools t43 p9]), (3, .own 0), (15, .int .i64 p10), (16, .int .i64 p11)], h := [(0, .bools p12)], fz := [], nx := 1, lo := 0 }
abbrev ef61L30 (t34 t35 t36 t37 t38 t39 t40 t41 t42 t43 : Tag) (p0 p1 p2 p3 : List Int) (p4 : List V) (p5 p6 p7 : List Int) (p8 : List V) (p9 : List Bool) (p10 p11 : Int) (p12 p13 : Bool) (p14 p15 : List Bool) : St := { t := [(0, .ro [.ints t34 .i64 p0, .ints t35 .i64 p1, .ints t36 .i64 p2, .ints t37 .i64 p3, .vals t38 125 p4, .ints t39 .i64 p5, .ints t40 .i64 p6, .ints t41 .i64 p7, .vals t42 29 p8, .bools t43 p9]), (3, .own 0), (4, .own 1), (15, .int .i64 p10), (16, .int .i64 p11), (17, .bool p12), (23, .bool p13)], h := [(0, .bools p14), (1, .bools p15)], fz := [], nx := 2, lo := 0 }
abbrev ef61L31 (t34 t35 t36 t37 t38 t39 t40 t41 t42 t43 : Tag) (p0 p1 p2 p3 : List Int) (p4 : List V) (p5 p6 p7 : List Int) (p8 : List V) (p9 : List Bool) (p10 p11 : Int) (p12 : Bool) (p13 : List Bool) : St := { t := [(0, .ro [.ints t34 .i64 p0, .ints t35 .i64 p1, .ints t36 .i64 p2, .ints t37 .i64 p3, .vals t38 125 p4, .ints t39 .i64 p5, .ints t40 .i64 p6, .ints t41 .i64 p7, .vals t42 29 p8, .bools t43 p9]), (3, .own 0), (15, .int .i64 p10), (16, .int .i64 p11), (17, .bool p12)], h := [(0, .bools p13)], fz := [], nx := 1, lo := 0 }
def smf61L3 (S : (R : Type) → Tf61L3 R) (fb : LOT) : Sm := { d := 40, f := 61, r := 3, p := (qf61L30 .frz .frz .frz .frz .frz .frz .frz .frz .frz .frz [] [] [] [] [] [] [] [] [] [] 0 0 []), s := fun R l k => match l with
  | .ints t34 x21 :: .ints t35 x22 :: .ints t36 x23 :: .ints t37 x24 :: .vals t38 x25 :: .ints t39 x26 :: .ints t40 x27 :: .ints t41 x28 :: .vals t42 x29 :: .bools t43 x30 :: .int x31 :: .int x32 :: .bools _ x33 :: [] => S R x21 x22 x23 x24 x25 x26 x27 x28 x29 x30 x31 x32 x33 (fun z0 z1 z2 z3 z4 => k (.exit 0) (ef61L30 t34 t35 t36 t37 t38 t39 t40 t41 t42 t43 x21 x22 x23 x24 x25 x26 x27 x28 x29 x30 x31 z0 z1 z2 z3 z4)) (fun z0 z1 z2 => k (.exit 0) (ef61L31 t34 t35 t36 t37 t38 t39 t40 t41 t42 t43 x21 x22 x23 x24 x25 x26 x27 x28 x29 x30 x31 z0 z1 z2))
  | l => match fillS (qf61L30 .frz .frz .frz .frz .frz .frz .frz .frz .frz .frz [] [] [] [] [] [] [] [] [] [] 0 0 []) l with
    | some st => fb R 40 61 3 st k
    | none => none }
theorem f63L4_seg {R : Type} (P51 : (R : Type) → T51 R) (P52 : (R : Type) → T52 R) (P53 : (R : Type) → T53 R) (P54 : (R : Type) → T54 R) (P56 : (R : Type) → T56 R) (LO : LOT) (g : St → Option R) (k : Ex → St → Option R) (t42 t43 t44 t45 t46 t47 t48 t49 t50 t51 t52 t53 : Tag) (x23 x24 x25 x26 : List Int) (x27 : List V) (x28 x29 x30 : List Int) (x31 : List V) (x32 x33 : List Bool) (x34 : List V) (x35 x37 x38 x39 x40 x36 : Int) (x41 : List Bool) :
    execL env (callsL env (tabOf [(51, w51 P51), (52, w52 P52), (53, w53 P53), (54, w54 P54), (56, w56 P56)]) spG (LOs [] LO) [] 40) 63 ((LOs [] LO) R 40 63) ((loopOf env 63 4).getD .skip) (qf63L40 t42 t43 t44 t45 t46 t47 t48 t49 t50 t51 t52 t53 x23 x24 x25 x26 x27 x28 x29 x30 x31 x32 x33 x34 x35 x36 x37 x38 x39 x40 x41) (bodyK env 63 4 g k) =
      f63L4 x23 x24 x25 x26 x27 x28 x29 x30 x31 x32 x33 x34 x35 x37 x38 x39 x40 (fun z0 z1 z2 => k (.exit 0) (ef63L40 t42 t43 t44 t45 t46 t47 t48 t49 t50 t51 t52 t53 x23 x24 x25 x26 x27 x28 x29 x30 x31 x32 x33 x34 x35 z0 z1 x37 x38 x39 x40 z2)) (fun y0 y1 => g (qf63L40 t42 t43 t44 t45 t46 t47 t48 t49 t50 t51 t52 t53 x23 x24 x25 x26 x27 x28 x29 x30 x31 x32 x33 x34 x35 y0 x37 x38 x39 x40 y1)) x36 x41 := by kernel_rfl
theorem f63L14_seg {R : Type} (P51 : (R : Type) → T51 R) (P52 : (R : Type) → T52 R) (P53 : (R : Type) → T53 R) (P54 : (R : Type) → T54 R) (P56 : (R : Type) → T56 R) (LO : LOT) (g : St → Option R) (k : Ex → St → Option R) (t76 t77 t78 t79 t80 t81 t82 t83 t84 t85 t86 t87 : Tag) (x57 x58 x59 x60 : List Int) (x61 : List V) (x62 x63 x64 : List Int) (x65 : List V) (x66 x67 : List Bool) (x68 : List Int) (x69 x71 x72 x73 x74 x70 : Int) (x75 : List Bool) :
    execL env (callsL env (tabOf [(51, w51 P51), (52, w52 P52), (53, w53 P53), (54, w54 P54), (56, w56 P56)]) spG (LOs [] LO) [] 40) 63 ((LOs [] LO) R 40 63) ((loopOf env 63 14).getD .skip) (qf63L140 t76 t77 t78 t79 t80 t81 t82 t83 t84 t85 t86 t87 x57 x58 x59 x60 x61 x62 x63 x64 x65 x66 x67 x68 x69 x70 x71 x72 x73 x74 x75) (bodyK env 63 14 g k) =
      f63L14 (P51 R) (P52 R) (P53 R) (P54 R) (P56 R) x57 x58 x59 x60 x61 x62 x63 x64 x65 x66 x67 x68 x69 x71 x72 x73 x74 (fun z0 z1 z2 => k (.exit 3) (ef63L140 t76 t77 t78 t79 t80 t81 t82 t83 t84 t85 t86 t87 x57 x58 x59 x60 x61 x62 x63 x64 x65 x66 x67 x68 x69 z0 z1 x71 x72 x73 x74 z2)) (fun y0 y1 => g (qf63L140 t76 t77 t78 t79 t80 t81 t82 t83 t84 t85 t86 t87 x57 x58 x59 x60 x61 x62 x63 x64 x65 x66 x67 x68 x69 y0 x71 x72 x73 x74 y1)) x70 x75 := by kernel_rfl
theorem f63_seg {R : Type} (P51 : (R : Type) → T51 R) (P52 : (R : Type) → T52 R) (P53 : (R : Type) → T53 R) (P54 : (R : Type) → T54 R) (P56 : (R : Type) → T56 R) (Sf63L4 : (R : Type) → Tf63L4 R) (Sf63L14 : (R : Type) → Tf63L14 R) (LO : LOT) (k : List V → Option R) (t1 t3 t5 t7 t9 t11 t13 t15 t17 t19 t21 : Tag) (a2 a4 a6 a8 : List Int) (a10 : List V) (a12 a14 a16 : List Int) (a18 : List V) (a20 a22 : List Bool) :
    pureBodyLK env (callsL env (tabOf [(51, w51 P51), (52, w52 P52), (53, w53 P53), (54, w54 P54), (56, w56 P56)]) spG (LOs [smf63L4 Sf63L4 LO, smf63L14 Sf63L14 LO] LO) [] 40) 63 ((LOs [smf63L4 Sf63L4 LO, smf63L14 Sf63L14 LO] LO) R 40 63) [.ro [.ints t1 .i64 a2, .ints t3 .i64 a4, .ints t5 .i64 a6, .ints t7 .i64 a8, .vals t9 125 a10, .ints t11 .i64 a12, .ints t13 .i64 a14, .ints t15 .i64 a16, .vals t17 29 a18, .bools t19 a20], .bools t21 a22] k =
      f63T (Sf63L4 R) (Sf63L14 R) a2 a4 a6 a8 a10 a12 a14 a16 a18 a20 a22 (fun y0 => k [.bools .new y0]) := by kernel_rfl
theorem f62L4_seg {R : Type} (LO : LOT) (g : St → Option R) (k : Ex → St → Option R) (t10 t9 : Tag) (x5 x6 : List Bool) (x7 x8 : Int) :
    execL env (callsL env (tabOf []) spG (LOs [] LO) [] 40) 62 ((LOs [] LO) R 40 62) ((loopOf env 62 4).getD .skip) (qf62L40 t10 t9 x5 x6 x7 x8) (bodyK env 62 4 g k) =
      f62L4 x5 x6 x7 (fun z0 z1 z2 z3 z4 => k .ret (ef62L40 t10 t9 x5 x6 z0 z1 x7 z2 z3 z4)) (fun z0 z1 => k (.exit 0) (ef62L41 t10 t9 x5 x6 x7 z0 z1)) (fun y0 => g (qf62L40 t10 t9 x5 x6 x7 y0)) x8 := by kernel_rfl
theorem f62_seg {R : Type} (Sf62L4 : (R : Type) → Tf62L4 R) (LO : LOT) (k : List V → Option R) (t1 t3 : Tag) (a2 a4 : List Bool) :
    pureBodyLK env (callsL env (tabOf []) spG (LOs [smf62L4 Sf62L4 LO] LO) [] 40) 62 ((LOs [smf62L4 Sf62L4 LO] LO) R 40 62) [.bools t1 a2, .bools t3 a4] k =
      f62T (Sf62L4 R) a2 a4 (fun y0 => k [.bool y0]) := by kernel_rfl
theorem f61L3_seg {R : Type} (P62 : (R : Type) → T62 R) (P63 : (R : Type) → T63 R) (LO : LOT) (g : St → Option R) (k : Ex → St → Option R) (t34 t35 t36 t37 t38 t39 t40 t41 t42 t43 : Tag) (x21 x22 x23 x24 : List Int) (x25 : List V) (x26 x27 x28 : List Int) (x29 : List V) (x30 : List Bool) (x31 x32 : Int) (x33 : List Bool) :
    execL env (callsL env (tabOf [(62, w62 P62), (63, w63 P63)]) spG (LOs [] LO) [] 40) 61 ((LOs [] LO) R 40 61) ((loopOf env 61 3).getD .skip) (qf61L30 t34 t35 t36 t37 t38 t39 t40 t41 t42 t43 x21 x22 x23 x24 x25 x26 x27 x28 x29 x30 x31 x32 x33) (bodyK env 61 3 g k) =
      f61L3 (P62 R) (P63 R) x21 x22 x23 x24 x25 x26 x27 x28 x29 x30 x31 (fun z0 z1 z2 z3 z4 => k (.exit 0) (ef61L30 t34 t35 t36 t37 t38 t39 t40 t41 t42 t43 x21 x22 x23 x24 x25 x26 x27 x28 x29 x30 x31 z0 z1 z2 z3 z4)) (fun z0 z1 z2 => k (.exit 0) (ef61L31 t34 t35 t36 t37 t38 t39 t40 t41 t42 t43 x21 x22 x23 x24 x25 x26 x27 x28 x29 x30 x31 z0 z1 z2)) (fun y0 y1 => g (qf61L30 t34 t35 t36 t37 t38 t39 t40 t41 t42 t43 x21 x22 x23 x24 x25 x26 x27 x28 x29 x30 x31 y0 y1)) x32 x33 := by kernel_rfl
theorem f61_seg {R : Type} (P62 : (R : Type) → T62 R) (P63 : (R : Type) → T63 R) (Sf61L3 : (R : Type) → Tf61L3 R) (LO : LOT) (k : List V → Option R) (t1 t3 t5 t7 t9 t11 t13 t15 t17 t19 : Tag) (a2 a4 a6 a8 : List Int) (a10 : List V) (a12 a14 a16 : List Int) (a18 : List V) (a20 : List Bool) :
    pureBodyLK env (callsL env (tabOf [(62, w62 P62), (63, w63 P63)]) spG (LOs [smf61L3 Sf61L3 LO] LO) [] 40) 61 ((LOs [smf61L3 Sf61L3 LO] LO) R 40 61) [.ro [.ints t1 .i64 a2, .ints t3 .i64 a4, .ints t5 .i64 a6, .ints t7 .i64 a8, .vals t9 125 a10, .ints t11 .i64 a12, .ints t13 .i64 a14, .ints t15 .i64 a16, .vals t17 29 a18, .bools t19 a20]] k =
      f61T (Sf61L3 R) a2 a4 a6 a8 a10 a12 a14 a16 a18 a20 (fun y0 => k [.bools .new y0]) := by kernel_rfl
end Go.Vm.T3
