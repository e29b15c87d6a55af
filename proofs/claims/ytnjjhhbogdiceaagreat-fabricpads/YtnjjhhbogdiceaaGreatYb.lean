/-
  A part of the proof that FabricPads answers true at every input. No condition.
-/
import Derived.Test.YtnjjhhbogdiceaaGreatYa
set_option linter.unusedVariables false
set_option maxRecDepth 100000
namespace Go.Vm.T3
open Go Go.Vm
abbrev T37 (R : Type) := Int → Int → Int → Int → List Int → (List Int → List Int → List Int → List Int → Option R) → Option R
def f37T {R : Type} (p41 : T41 R) (a1 a2 a3 a4 : Int) (a6 : List Int) (kr : List Int → List Int → List Int → List Int → Option R) : Option R :=
 p41 a1 a2 a3 a4 a6 (fun y7 =>
  gd (inS 0 y7 lim) <|
  gd (inS 0 (mulI .i64 a1 a2) lim) <|
  gd (inS 0 (mulI .i64 a1 a2) lim) <|
  gd (inS 0 (mulI .i64 a1 a2) lim) <|
  kr (List.replicate (Int.toNat y7) 0) (List.replicate (Int.toNat (mulI .i64 a1 a2)) 0) (List.replicate (Int.toNat (mulI .i64 a1 a2)) 0) (List.replicate (Int.toNat (mulI .i64 a1 a2)) 0))
def f37 {R : Type} (M : Nat) (a1 a2 a3 a4 : Int) (a6 : List Int) (kr : List Int → List Int → List Int → List Int → Option R) : Option R :=
  f37T (f41 M) a1 a2 a3 a4 a6 kr
abbrev T23 (R : Type) := List V → List V → List V → List Int → Int → Int → Int → Int → List Int → List Int → List V → (List Int → List Int → List Int → List Int → Int → Option R) → Option R
abbrev Tf23L5 (R : Type) := List V → List V → List V → List Int → Int → Int → Int → Int → List Int → List Int → List V → Int → List Int → List Int → List Int → List Int → List Int → Int → List Int → List Int → List Int → (Int → Bool → List Int → List Int → List Int → Option R) → Option R
def f23L5 {R : Type} (x25 x26 x27 : List V) (x28 : List Int) (x29 x30 x31 x32 : Int) (x33 x34 : List Int) (x35 : List V) (x36 : Int) (x37 x38 x39 x40 x41 : List Int) (k0 : Int → Bool → List Int → List Int → List Int → Option R) (g0 : Int → List Int → List Int → List Int → Option R) (x24 : Int) (x42 x43 x44 : List Int) : Option R :=
 bif (ltI x24 (lenI x34.length)) then
  gd (inR x24 x26.length) <|
  gd (inR x24 x34.length) <|
  bif (neI (V.toInt (V.cell (List.getD x26 (Int.toNat x24) .undef) 2)) (-1)) then
   gd (inR (List.getD x34 (Int.toNat x24) 0) x42.length) <|
   gd (inR (List.getD x34 (Int.toNat x24) 0) x44.length) <|
   g0 (addI .i64 x24 1) (List.set x42 (Int.toNat (List.getD x34 (Int.toNat x24) 0)) 3) x43 (List.set x44 (Int.toNat (List.getD x34 (Int.toNat x24) 0)) (V.toInt (V.cell (List.getD x26 (Int.toNat x24) .undef) 2)))
  else
  bif (neI (V.toInt (V.cell (List.getD x26 (Int.toNat x24) .undef) 3)) (-1)) then
   gd (inR (List.getD x34 (Int.toNat x24) 0) x42.length) <|
   gd (inR (List.getD x34 (Int.toNat x24) 0) x43.length) <|
   gd (inR (List.getD x34 (Int.toNat x24) 0) x44.length) <|
   g0 (addI .i64 x24 1) (List.set x42 (Int.toNat (List.getD x34 (Int.toNat x24) 0)) 2) (List.set x43 (Int.toNat (List.getD x34 (Int.toNat x24) 0)) (V.toInt (V.cell (List.getD x26 (Int.toNat x24) .undef) 1))) (List.set x44 (Int.toNat (List.getD x34 (Int.toNat x24) 0)) (V.toInt (V.cell (List.getD x26 (Int.toNat x24) .undef) 3)))
  else
  gd (inR (List.getD x34 (Int.toNat x24) 0) x42.length) <|
  gd (inR (List.getD x34 (Int.toNat x24) 0) x43.length) <|
  g0 (addI .i64 x24 1) (List.set x42 (Int.toNat (List.getD x34 (Int.toNat x24) 0)) 1) (List.set x43 (Int.toNat (List.getD x34 (Int.toNat x24) 0)) (V.toInt (V.cell (List.getD x26 (Int.toNat x24) .undef) 1))) x44
 else
 k0 x24 (ltI x24 (lenI x34.length)) x42 x43 x44
abbrev Tf23L22 (R : Type) := Int → Int → Int → Int → Int → List Int → List Int → List V → Int → List Int → List Int → List Int → List Int → List Int → List Int → List Int → Int → List Int → List Int → Int → List Int → (Int → Bool → List Int → Option R) → Option R
def f23L22 {R : Type} (p44 : T44 R) (p45 : T45 R) (x77 x79 x80 x81 x82 : Int) (x83 x84 : List Int) (x85 : List V) (x86 : Int) (x87 x88 x89 x90 x92 x93 x94 : List Int) (x95 : Int) (x96 x97 : List Int) (k0 : Int → Bool → List Int → Option R) (g0 : Int → List Int → Option R) (x78 : Int) (x91 : List Int) : Option R :=
 bif (ltI x78 (lenI x96.length)) then
  gd (inR x78 x96.length) <|
  gd (inR x78 x96.length) <|
  p45 x79 x80 x81 x82 x83 (List.getD x96 (Int.toNat x78) 0) (fun y101 =>
   gd (inR x78 x97.length) <|
   gd (inR (List.getD x97 (Int.toNat x78) 0) x96.length) <|
   p44 y101 (List.getD x96 (Int.toNat (List.getD x97 (Int.toNat x78) 0)) 0) (fun y102 =>
    gd (inR (List.getD x96 (Int.toNat x78) 0) x91.length) <|
    g0 (addI .i64 x78 1) (List.set x91 (Int.toNat (List.getD x96 (Int.toNat x78) 0)) (addI .i64 1 y102))))
 else
 k0 x78 (ltI x78 (lenI x96.length)) x91
abbrev Tf23L18 (R : Type) := Int → Int → Int → Int → List Int → List Int → List V → Int → List Int → List Int → List Int → List Int → List Int → List Int → List Int → Int → List Int → (Int → Bool → List Int → Option R) → Option R
def f23L18 {R : Type} (sf23L22 : Tf23L22 R) (x58 x59 x60 x61 : Int) (x62 x63 : List Int) (x64 : List V) (x65 : Int) (x66 x67 x68 x69 x71 x72 x73 : List Int) (k0 : Int → Bool → List Int → Option R) (g0 : Int → List Int → Option R) (x57 : Int) (x70 : List Int) : Option R :=
 bif (ltI x57 (lenI x64.length)) then
  gd (inR x57 x64.length) <|
  sf23L22 x57 x58 x59 x60 x61 x62 x63 x64 x65 x66 x67 x68 x69 x71 x72 x73 (V.toInt (V.cell (List.getD x64 (Int.toNat x57) .undef) 0)) (V.toInts (V.cell (List.getD x64 (Int.toNat x57) .undef) 1)) (V.toInts (V.cell (List.getD x64 (Int.toNat x57) .undef) 2)) 1 x70 (fun z103 z104 z105 =>
   g0 (addI .i64 x57 1) z105)
 else
 k0 x57 (ltI x57 (lenI x64.length)) x70
def f23T {R : Type} (p37 : T37 R) (p43 : T43 R) (sf23L5 : Tf23L5 R) (sf23L18 : Tf23L18 R) (a2 a4 a6 : List V) (a8 : List Int) (a9 a10 a11 a12 : Int) (a14 a16 : List Int) (a18 : List V) (kr : List Int → List Int → List Int → List Int → Int → Option R) : Option R :=
 p43 a2 a4 a6 a8 a9 a10 a11 a12 a14 a16 a18 (fun y19 =>
  bif (notB y19) then
   kr [] [] [] [] 350
  else
  p37 a9 a10 a11 a12 a14 (fun y20 y21 y22 y23 =>
   sf23L5 a2 a4 a6 a8 a9 a10 a11 a12 a14 a16 a18 0 [] [] [] [] y20 0 y21 y22 y23 (fun z52 z53 z54 z55 z56 =>
    sf23L18 a9 a10 a11 a12 a14 a16 a18 0 [] [] [] [] z54 z55 z56 0 y20 (fun z106 z107 z108 =>
     kr z108 z54 z55 z56 0))))
def f23L5S {R : Type} (M : Nat) (x25 x26 x27 : List V) (x28 : List Int) (x29 x30 x31 x32 : Int) (x33 x34 : List Int) (x35 : List V) (x36 : Int) (x37 x38 x39 x40 x41 : List Int) (x24 : Int) (x42 x43 x44 : List Int) (k0 : Int → Bool → List Int → List Int → List Int → Option R) : Option R :=
  rounds (fun (g : Int × (List Int) × (List Int) × (List Int) → Option R) (a : Int × (List Int) × (List Int) × (List Int)) => f23L5 x25 x26 x27 x28 x29 x30 x31 x32 x33 x34 x35 x36 x37 x38 x39 x40 x41 k0 (fun y0 y1 y2 y3 => g (y0, y1, y2, y3)) a.1 a.2.1 a.2.2.1 a.2.2.2) M (x24, x42, x43, x44)
def f23L22S {R : Type} (M : Nat) (x77 x79 x80 x81 x82 : Int) (x83 x84 : List Int) (x85 : List V) (x86 : Int) (x87 x88 x89 x90 x92 x93 x94 : List Int) (x95 : Int) (x96 x97 : List Int) (x78 : Int) (x91 : List Int) (k0 : Int → Bool → List Int → Option R) : Option R :=
  rounds (fun (g : Int × (List Int) → Option R) (a : Int × (List Int)) => f23L22 (f44 M) (f45 M) x77 x79 x80 x81 x82 x83 x84 x85 x86 x87 x88 x89 x90 x92 x93 x94 x95 x96 x97 k0 (fun y0 y1 => g (y0, y1)) a.1 a.2) M (x78, x91)
def f23L18S {R : Type} (M : Nat) (x58 x59 x60 x61 : Int) (x62 x63 : List Int) (x64 : List V) (x65 : Int) (x66 x67 x68 x69 x71 x72 x73 : List Int) (x57 : Int) (x70 : List Int) (k0 : Int → Bool → List Int → Option R) : Option R :=
  rounds (fun (g : Int × (List Int) → Option R) (a : Int × (List Int)) => f23L18 (f23L22S M) x58 x59 x60 x61 x62 x63 x64 x65 x66 x67 x68 x69 x71 x72 x73 k0 (fun y0 y1 => g (y0, y1)) a.1 a.2) M (x57, x70)
def f23 {R : Type} (M : Nat) (a2 a4 a6 : List V) (a8 : List Int) (a9 a10 a11 a12 : Int) (a14 a16 : List Int) (a18 : List V) (kr : List Int → List Int → List Int → List Int → Int → Option R) : Option R :=
  f23T (f37 M) (f43 M) (f23L5S M) (f23L18S M) a2 a4 a6 a8 a9 a10 a11 a12 a14 a16 a18 kr
abbrev T24 (R : Type) := Int → Int → Int → Int → List Int → List Int → (List Int → List Int → List Int → List Int → Option R) → Option R
abbrev Tf24L3 (R : Type) := List Int → Int → Int → Int → Int → List Int → List Int → List Int → List Int → List Int → Int → List Int → List Int → List Int → List Int → (Int → Bool → List Int → List Int → List Int → List Int → Option R) → Option R
def f24L3 {R : Type} (p46 : T46 R) (x13 : List Int) (x15 x16 x17 x18 : Int) (x19 x20 x21 x22 x23 : List Int) (k0 : Int → Bool → List Int → List Int → List Int → List Int → Option R) (g0 : Int → List Int → List Int → List Int → List Int → Option R) (x14 : Int) (x24 x25 x26 x27 : List Int) : Option R :=
 bif (ltI (addI .i64 x14 1) (lenI x13.length)) then
  bif (ltI x14 80) then
   gd (inR x14 x13.length) <|
   gd (nzI (lenI x24.length)) <|
   p46 x15 x16 x17 x18 x19 (remI (addI .i64 (mulI .i64 7 x14) (convI .i64 (List.getD x13 (Int.toNat x14) 0))) (lenI x24.length)) (fun y30 =>
    bif (ltI 0 y30) then
     gd (inR (addI .i64 x14 1) x13.length) <|
     gd (nzI y30) <|
     gd (inR (remI (addI .i64 (mulI .i64 7 x14) (convI .i64 (List.getD x13 (Int.toNat x14) 0))) (lenI x24.length)) x24.length) <|
     gd (inR x14 x13.length) <|
     gd (nzI (mulI .i64 x15 x16)) <|
     gd (inR (remI (convI .i64 (List.getD x13 (Int.toNat x14) 0)) (mulI .i64 x15 x16)) x19.length) <|
     bif (eqI (List.getD x19 (Int.toNat (remI (convI .i64 (List.getD x13 (Int.toNat x14) 0)) (mulI .i64 x15 x16))) 0) 0) then
      g0 (addI .i64 x14 2) (List.set x24 (Int.toNat (remI (addI .i64 (mulI .i64 7 x14) (convI .i64 (List.getD x13 (Int.toNat x14) 0))) (lenI x24.length))) (addI .i64 1 (remI (convI .i64 (List.getD x13 (Int.toNat (addI .i64 x14 1)) 0)) y30))) x25 x26 x27
     else
     gd (inR (addI .i64 x14 1) x13.length) <|
     bif (eqI (remI (List.getD x13 (Int.toNat (addI .i64 x14 1)) 0) 3) 0) then
      gd (inR (remI (convI .i64 (List.getD x13 (Int.toNat x14) 0)) (mulI .i64 x15 x16)) x25.length) <|
      gd (inR (addI .i64 x14 1) x13.length) <|
      gd (inR (remI (convI .i64 (List.getD x13 (Int.toNat x14) 0)) (mulI .i64 x15 x16)) x26.length) <|
      gd (inR (remI (convI .i64 (List.getD x13 (Int.toNat x14) 0)) (mulI .i64 x15 x16)) x27.length) <|
      g0 (addI .i64 x14 2) (List.set x24 (Int.toNat (remI (addI .i64 (mulI .i64 7 x14) (convI .i64 (List.getD x13 (Int.toNat x14) 0))) (lenI x24.length))) (addI .i64 1 (remI (convI .i64 (List.getD x13 (Int.toNat (addI .i64 x14 1)) 0)) y30))) (List.set x25 (Int.toNat (remI (convI .i64 (List.getD x13 (Int.toNat x14) 0)) (mulI .i64 x15 x16))) 1) (List.set x26 (Int.toNat (remI (convI .i64 (List.getD x13 (Int.toNat x14) 0)) (mulI .i64 x15 x16))) (mulI .i64 100 (convI .i64 (List.getD x13 (Int.toNat (addI .i64 x14 1)) 0)))) (List.set x27 (Int.toNat (remI (convI .i64 (List.getD x13 (Int.toNat x14) 0)) (mulI .i64 x15 x16))) 0)
     else
     gd (inR (addI .i64 x14 1) x13.length) <|
     bif (eqI (remI (List.getD x13 (Int.toNat (addI .i64 x14 1)) 0) 3) 1) then
      gd (inR (remI (convI .i64 (List.getD x13 (Int.toNat x14) 0)) (mulI .i64 x15 x16)) x25.length) <|
      gd (inR (addI .i64 x14 1) x13.length) <|
      gd (inR (remI (convI .i64 (List.getD x13 (Int.toNat x14) 0)) (mulI .i64 x15 x16)) x26.length) <|
      gd (inR (addI .i64 x14 1) x13.length) <|
      gd (inR (remI (convI .i64 (List.getD x13 (Int.toNat x14) 0)) (mulI .i64 x15 x16)) x27.length) <|
      g0 (addI .i64 x14 2) (List.set x24 (Int.toNat (remI (addI .i64 (mulI .i64 7 x14) (convI .i64 (List.getD x13 (Int.toNat x14) 0))) (lenI x24.length))) (addI .i64 1 (remI (convI .i64 (List.getD x13 (Int.toNat (addI .i64 x14 1)) 0)) y30))) (List.set x25 (Int.toNat (remI (convI .i64 (List.getD x13 (Int.toNat x14) 0)) (mulI .i64 x15 x16))) 2) (List.set x26 (Int.toNat (remI (convI .i64 (List.getD x13 (Int.toNat x14) 0)) (mulI .i64 x15 x16))) (mulI .i64 100 (convI .i64 (List.getD x13 (Int.toNat (addI .i64 x14 1)) 0)))) (List.set x27 (Int.toNat (remI (convI .i64 (List.getD x13 (Int.toNat x14) 0)) (mulI .i64 x15 x16))) (convI .i64 (quoI .u8 (List.getD x13 (Int.toNat (addI .i64 x14 1)) 0) 3)))
     else
     g0 (addI .i64 x14 2) (List.set x24 (Int.toNat (remI (addI .i64 (mulI .i64 7 x14) (convI .i64 (List.getD x13 (Int.toNat x14) 0))) (lenI x24.length))) (addI .i64 1 (remI (convI .i64 (List.getD x13 (Int.toNat (addI .i64 x14 1)) 0)) y30))) x25 x26 x27
    else
    gd (inR x14 x13.length) <|
    gd (nzI (mulI .i64 x15 x16)) <|
    gd (inR (remI (convI .i64 (List.getD x13 (Int.toNat x14) 0)) (mulI .i64 x15 x16)) x19.length) <|
    bif (eqI (List.getD x19 (Int.toNat (remI (convI .i64 (List.getD x13 (Int.toNat x14) 0)) (mulI .i64 x15 x16))) 0) 0) then
     g0 (addI .i64 x14 2) x24 x25 x26 x27
    else
    gd (inR (addI .i64 x14 1) x13.length) <|
    bif (eqI (remI (List.getD x13 (Int.toNat (addI .i64 x14 1)) 0) 3) 0) then
     gd (inR (remI (convI .i64 (List.getD x13 (Int.toNat x14) 0)) (mulI .i64 x15 x16)) x25.length) <|
     gd (inR (addI .i64 x14 1) x13.length) <|
     gd (inR (remI (convI .i64 (List.getD x13 (Int.toNat x14) 0)) (mulI .i64 x15 x16)) x26.length) <|
     gd (inR (remI (convI .i64 (List.getD x13 (Int.toNat x14) 0)) (mulI .i64 x15 x16)) x27.length) <|
     g0 (addI .i64 x14 2) x24 (List.set x25 (Int.toNat (remI (convI .i64 (List.getD x13 (Int.toNat x14) 0)) (mulI .i64 x15 x16))) 1) (List.set x26 (Int.toNat (remI (convI .i64 (List.getD x13 (Int.toNat x14) 0)) (mulI .i64 x15 x16))) (mulI .i64 100 (convI .i64 (List.getD x13 (Int.toNat (addI .i64 x14 1)) 0)))) (List.set x27 (Int.toNat (remI (convI .i64 (List.getD x13 (Int.toNat x14) 0)) (mulI .i64 x15 x16))) 0)
    else
    gd (inR (addI .i64 x14 1) x13.length) <|
    bif (eqI (remI (List.getD x13 (Int.toNat (addI .i64 x14 1)) 0) 3) 1) then
     gd (inR (remI (convI .i64 (List.getD x13 (Int.toNat x14) 0)) (mulI .i64 x15 x16)) x25.length) <|
     gd (inR (addI .i64 x14 1) x13.length) <|
     gd (inR (remI (convI .i64 (List.getD x13 (Int.toNat x14) 0)) (mulI .i64 x15 x16)) x26.length) <|
     gd (inR (addI .i64 x14 1) x13.length) <|
     gd (inR (remI (convI .i64 (List.getD x13 (Int.toNat x14) 0)) (mulI .i64 x15 x16)) x27.length) <|
     g0 (addI .i64 x14 2) x24 (List.set x25 (Int.toNat (remI (convI .i64 (List.getD x13 (Int.toNat x14) 0)) (mulI .i64 x15 x16))) 2) (List.set x26 (Int.toNat (remI (convI .i64 (List.getD x13 (Int.toNat x14) 0)) (mulI .i64 x15 x16))) (mulI .i64 100 (convI .i64 (List.getD x13 (Int.toNat (addI .i64 x14 1)) 0)))) (List.set x27 (Int.toNat (remI (convI .i64 (List.getD x13 (Int.toNat x14) 0)) (mulI .i64 x15 x16))) (convI .i64 (quoI .u8 (List.getD x13 (Int.toNat (addI .i64 x14 1)) 0) 3)))
    else
    g0 (addI .i64 x14 2) x24 x25 x26 x27)
  else
  k0 x14 (ltI x14 80) x24 x25 x26 x27
 else
 k0 x14 false x24 x25 x26 x27
def f24T {R : Type} (p37 : T37 R) (sf24L3 : Tf24L3 R) (a1 a2 a3 a4 : Int) (a6 a8 : List Int) (kr : List Int → List Int → List Int → List Int → Option R) : Option R :=
 p37 a1 a2 a3 a4 a6 (fun y9 y10 y11 y12 =>
  sf24L3 a8 a1 a2 a3 a4 a6 [] [] [] [] 0 y9 y10 y11 y12 (fun z31 z32 z33 z34 z35 z36 =>
   kr z33 z34 z35 z36))
def f24L3S {R : Type} (M : Nat) (x13 : List Int) (x15 x16 x17 x18 : Int) (x19 x20 x21 x22 x23 : List Int) (x14 : Int) (x24 x25 x26 x27 : List Int) (k0 : Int → Bool → List Int → List Int → List Int → List Int → Option R) : Option R :=
  rounds (fun (g : Int × (List Int) × (List Int) × (List Int) × (List Int) → Option R) (a : Int × (List Int) × (List Int) × (List Int) × (List Int)) => f24L3 (f46 M) x13 x15 x16 x17 x18 x19 x20 x21 x22 x23 k0 (fun y0 y1 y2 y3 y4 => g (y0, y1, y2, y3, y4)) a.1 a.2.1 a.2.2.1 a.2.2.2.1 a.2.2.2.2) M (x14, x24, x25, x26, x27)
def f24 {R : Type} (M : Nat) (a1 a2 a3 a4 : Int) (a6 a8 : List Int) (kr : List Int → List Int → List Int → List Int → Option R) : Option R :=
  f24T (f37 M) (f24L3S M) a1 a2 a3 a4 a6 a8 kr
abbrev T47 (R : Type) := Int → Int → Int → Int → List Int → List Int → List Int → List Int → List Int → (List Int → Option R) → Option R
abbrev Tf47L3 (R : Type) := Int → Int → Int → Int → List Int → List Int → List Int → List Int → List Int → Int → List Int → (Int → Bool → List Int → Option R) → Option R
def f47L3 {R : Type} (p45 : T45 R) (x16 x17 x18 x19 : Int) (x20 x21 x22 x23 x24 : List Int) (k0 : Int → Bool → List Int → Option R) (g0 : Int → List Int → Option R) (x15 : Int) (x25 : List Int) : Option R :=
 bif (ltI x15 (lenI x21.length)) then
  gd (inR x15 x21.length) <|
  bif (ltI 0 (List.getD x21 (Int.toNat x15) 0)) then
   p45 x16 x17 x18 x19 x20 x15 (fun y31 =>
    gd (inR x15 x21.length) <|
    gd (inR (subI .i64 (List.getD x21 (Int.toNat x15) 0) 1) y31.length) <|
    gd (okL (x25 ++ [(List.getD y31 (Int.toNat (subI .i64 (List.getD x21 (Int.toNat x15) 0) 1)) 0)]).length) <|
    g0 (addI .i64 x15 1) (x25 ++ [(List.getD y31 (Int.toNat (subI .i64 (List.getD x21 (Int.toNat x15) 0) 1)) 0)]))
  else
  gd (okL (x25 ++ [(-1)]).length) <|
  g0 (addI .i64 x15 1) (x25 ++ [(-1)])
 else
 k0 x15 (ltI x15 (lenI x21.length)) x25
def f47T {R : Type} (sf47L3 : Tf47L3 R) (a1 a2 a3 a4 : Int) (a6 a8 a10 a12 a14 : List Int) (kr : List Int → Option R) : Option R :=
 sf47L3 a1 a2 a3 a4 a6 a8 a10 a12 a14 0 [] (fun z32 z33 z34 =>
  kr z34)
def f47L3S {R : Type} (M : Nat) (x16 x17 x18 x19 : Int) (x20 x21 x22 x23 x24 : List Int) (x15 : Int) (x25 : List Int) (k0 : Int → Bool → List Int → Option R) : Option R :=
  rounds (fun (g : Int × (List Int) → Option R) (a : Int × (List Int)) => f47L3 (f45 M) x16 x17 x18 x19 x20 x21 x22 x23 x24 k0 (fun y0 y1 => g (y0, y1)) a.1 a.2) M (x15, x25)
def f47 {R : Type} (M : Nat) (a1 a2 a3 a4 : Int) (a6 a8 a10 a12 a14 : List Int) (kr : List Int → Option R) : Option R :=
  f47T (f47L3S M) a1 a2 a3 a4 a6 a8 a10 a12 a14 kr
abbrev T25 (R : Type) := Int → Int → Int → Int → List Int → List Int → List Int → List Int → List Int → (Int → Int → Int → Int → List Int → List Int → List Int → List Int → List Int → List Int → List Int → List V → List Bool → Option R) → Option R
def f25T {R : Type} (p47 : T47 R) (a1 a2 a3 a4 : Int) (a5 a6 a7 a8 a9 : List Int) (kr : Int → Int → Int → Int → List Int → List Int → List Int → List Int → List Int → List Int → List Int → List V → List Bool → Option R) : Option R :=
 p47 a1 a2 a3 a4 a5 a6 a7 a8 a9 (fun y10 =>
  kr a1 a2 a3 a4 a5 a6 a7 a8 a9 y10 [] [] [])
def f25 {R : Type} (M : Nat) (a1 a2 a3 a4 : Int) (a5 a6 a7 a8 a9 : List Int) (kr : Int → Int → Int → Int → List Int → List Int → List Int → List Int → List Int → List Int → List Int → List V → List Bool → Option R) : Option R :=
  f25T (f47 M) a1 a2 a3 a4 a5 a6 a7 a8 a9 kr
abbrev T16 (R : Type) := Int → Int → Int → Int → List Int → List Int → List Int → List Int → List Int → List Int → List Int → List V → List Bool → List Int → List V → List Bool → (Int → Int → Int → Int → List Int → List Int → List Int → List Int → List Int → List Int → List Int → List V → List Bool → Option R) → Option R
def f16T {R : Type} (a1 a2 a3 a4 : Int) (a5 a6 a7 a8 a9 a10 a11 : List Int) (a12 : List V) (a13 : List Bool) (a14 : List Int) (a15 : List V) (a16 : List Bool) (kr : Int → Int → Int → Int → List Int → List Int → List Int → List Int → List Int → List Int → List Int → List V → List Bool → Option R) : Option R :=
 kr a1 a2 a3 a4 a5 a6 a7 a8 a9 a10 a14 a15 a16
def f16 {R : Type} (M : Nat) (a1 a2 a3 a4 : Int) (a5 a6 a7 a8 a9 a10 a11 : List Int) (a12 : List V) (a13 : List Bool) (a14 : List Int) (a15 : List V) (a16 : List Bool) (kr : Int → Int → Int → Int → List Int → List Int → List Int → List Int → List Int → List Int → List Int → List V → List Bool → Option R) : Option R :=
  f16T a1 a2 a3 a4 a5 a6 a7 a8 a9 a10 a11 a12 a13 a14 a15 a16 kr
abbrev T17 (R : Type) := List Bool → Int → (List Bool → Option R) → Option R
def f17T {R : Type} (a2 : List Bool) (a3 : Int) (kr : List Bool → Option R) : Option R :=
 gd (okL a2.length) <|
 gd (inR a3 a2.length) <|
 gd (inR a3 a2.length) <|
 kr (List.set a2 (Int.toNat a3) (notB (List.getD a2 (Int.toNat a3) false)))
def f17 {R : Type} (M : Nat) (a2 : List Bool) (a3 : Int) (kr : List Bool → Option R) : Option R :=
  f17T a2 a3 kr
abbrev T7 (R : Type) := Int → Int → Int → Int → List Int → List V → List V → List Int → List V → List V → List Int → List V → List V → List Bool → List Int → List Int → (Bool → Option R) → Option R
abbrev Tf7L3 (R : Type) := Int → Int → Int → Int → List Int → List V → List V → List Int → List V → List V → List Int → List V → List V → List Bool → List Int → List Int → Int → Int → (Int → Int → Bool → Option R) → Option R
def f7L3 {R : Type} (x31 x32 x33 x34 : Int) (x35 : List Int) (x36 x37 : List V) (x38 : List Int) (x39 x40 : List V) (x41 : List Int) (x42 x43 : List V) (x44 : List Bool) (x45 x46 : List Int) (k0 : Int → Int → Bool → Option R) (g0 : Int → Int → Option R) (x29 x30 : Int) : Option R :=
 bif (ltI x30 (lenI x42.length)) then
  gd (inR x30 x42.length) <|
  g0 (addI .i64 x29 (lenI (V.toInts (V.cell (List.getD x42 (Int.toNat x30) .undef) 0)).length)) (addI .i64 x30 1)
 else
 k0 x29 x30 (ltI x30 (lenI x42.length))
def f7T {R : Type} (sf7L3 : Tf7L3 R) (a1 a2 a3 a4 : Int) (a6 : List Int) (a8 a10 : List V) (a12 : List Int) (a14 a16 : List V) (a18 : List Int) (a20 a22 : List V) (a24 : List Bool) (a26 a28 : List Int) (kr : Bool → Option R) : Option R :=
 sf7L3 a1 a2 a3 a4 a6 a8 a10 a12 a14 a16 a18 a20 a22 a24 a26 a28 (addI .i64 (addI .i64 (addI .i64 (lenI a18.length) (lenI a20.length)) (lenI a22.length)) (lenI a24.length)) 0 (fun z59 z60 z61 =>
  kr (leI z59 100))
def f7L3S {R : Type} (M : Nat) (x31 x32 x33 x34 : Int) (x35 : List Int) (x36 x37 : List V) (x38 : List Int) (x39 x40 : List V) (x41 : List Int) (x42 x43 : List V) (x44 : List Bool) (x45 x46 : List Int) (x29 x30 : Int) (k0 : Int → Int → Bool → Option R) : Option R :=
  rounds (fun (g : Int × Int → Option R) (a : Int × Int) => f7L3 x31 x32 x33 x34 x35 x36 x37 x38 x39 x40 x41 x42 x43 x44 x45 x46 k0 (fun y0 y1 => g (y0, y1)) a.1 a.2) M (x29, x30)
def f7 {R : Type} (M : Nat) (a1 a2 a3 a4 : Int) (a6 : List Int) (a8 a10 : List V) (a12 : List Int) (a14 a16 : List V) (a18 : List Int) (a20 a22 : List V) (a24 : List Bool) (a26 a28 : List Int) (kr : Bool → Option R) : Option R :=
  f7T (f7L3S M) a1 a2 a3 a4 a6 a8 a10 a12 a14 a16 a18 a20 a22 a24 a26 a28 kr
abbrev T50 (R : Type) := Int → Int → Int → Int → List Int → Int → (Int → Int → Int → Int → Int → Option R) → Option R
def f50T {R : Type} (p78 : T78 R) (p79 : T79 R) (p80 : T80 R) (a1 a2 a3 a4 : Int) (a6 : List Int) (a7 : Int) (kr : Int → Int → Int → Int → Int → Option R) : Option R :=
 p78 a1 a2 a3 a4 a6 (fun y8 =>
  bif (ltI a7 0) then
   kr 0 0 0 0 1
  else
  p79 a1 a2 a3 a4 a6 (fun y9 =>
   bif (leI y9 a7) then
    kr 0 0 0 0 1
   else
   bif (leI a4 (subI .i64 a7 y8)) then
    gd (nzI a2) <|
    kr 7 a1 (remI (subI .i64 (subI .i64 a7 y8) a4) a2) (subI .i64 (subI .i64 a7 y8) a4) 0
   else
   bif (leI 0 (subI .i64 a7 y8)) then
    gd (nzI a2) <|
    kr 6 (-1) (remI (subI .i64 a7 y8) a2) (subI .i64 a7 y8) 0
   else
   p80 a1 a2 a3 a4 a6 (fun y10 =>
    gd (nzI y10) <|
    p80 a1 a2 a3 a4 a6 (fun y11 =>
     gd (nzI y11) <|
     gd (nzI a1) <|
     gd (nzI a1) <|
     bif (leI (addI .i64 6 a3) (remI a7 y11)) then
      kr 5 (remI (quoI .i64 a7 y10) a1) (quoI .i64 (quoI .i64 a7 y10) a1) (subI .i64 (subI .i64 (subI .i64 (remI a7 y11) 2) 4) a3) 0
     else
     bif (leI 6 (remI a7 y11)) then
      kr 4 (remI (quoI .i64 a7 y10) a1) (quoI .i64 (quoI .i64 a7 y10) a1) (subI .i64 (subI .i64 (remI a7 y11) 2) 4) 0
     else
     bif (leI 2 (remI a7 y11)) then
      kr 3 (remI (quoI .i64 a7 y10) a1) (quoI .i64 (quoI .i64 a7 y10) a1) (subI .i64 (remI a7 y11) 2) 0
     else
     bif (eqI (remI a7 y11) 1) then
      kr 2 (remI (quoI .i64 a7 y10) a1) (quoI .i64 (quoI .i64 a7 y10) a1) 0 0
     else
     kr 1 (remI (quoI .i64 a7 y10) a1) (quoI .i64 (quoI .i64 a7 y10) a1) 0 0))))
def f50 {R : Type} (M : Nat) (a1 a2 a3 a4 : Int) (a6 : List Int) (a7 : Int) (kr : Int → Int → Int → Int → Int → Option R) : Option R :=
  f50T (f78 M) (f79 M) (f80 M) a1 a2 a3 a4 a6 a7 kr
abbrev T83 (R : Type) := Int → Int → Int → Int → List Int → Int → Int → Int → Int → (Int → Int → Option R) → Option R
def f83T {R : Type} (p50 : T50 R) (p78 : T78 R) (p80 : T80 R) (a1 a2 a3 a4 : Int) (a6 : List Int) (a7 a8 a9 a10 : Int) (kr : Int → Int → Option R) : Option R :=
 p80 a1 a2 a3 a4 a6 (fun y11 =>
  bif (eqI a7 1) then
   p50 a1 a2 a3 a4 a6 (mulI .i64 (addI .i64 (mulI .i64 a9 a1) a8) y11) (fun y12 y13 y14 y15 y16 =>
    bif (neI y16 0) then
     kr 0 1
    else
    bif (notB ((eqI y12 a7) && ((eqI y13 a8) && ((eqI y14 a9) && ((eqI y15 a10) && true))))) then
     kr 0 1
    else
    kr (mulI .i64 (addI .i64 (mulI .i64 a9 a1) a8) y11) 0)
  else
  bif (eqI a7 2) then
   p50 a1 a2 a3 a4 a6 (addI .i64 (mulI .i64 (addI .i64 (mulI .i64 a9 a1) a8) y11) 1) (fun y17 y18 y19 y20 y21 =>
    bif (neI y21 0) then
     kr 0 1
    else
    bif (notB ((eqI y17 a7) && ((eqI y18 a8) && ((eqI y19 a9) && ((eqI y20 a10) && true))))) then
     kr 0 1
    else
    kr (addI .i64 (mulI .i64 (addI .i64 (mulI .i64 a9 a1) a8) y11) 1) 0)
  else
  bif (eqI a7 3) then
   p50 a1 a2 a3 a4 a6 (addI .i64 (addI .i64 (mulI .i64 (addI .i64 (mulI .i64 a9 a1) a8) y11) 2) a10) (fun y22 y23 y24 y25 y26 =>
    bif (neI y26 0) then
     kr 0 1
    else
    bif (notB ((eqI y22 a7) && ((eqI y23 a8) && ((eqI y24 a9) && ((eqI y25 a10) && true))))) then
     kr 0 1
    else
    kr (addI .i64 (addI .i64 (mulI .i64 (addI .i64 (mulI .i64 a9 a1) a8) y11) 2) a10) 0)
  else
  bif (eqI a7 4) then
   p50 a1 a2 a3 a4 a6 (addI .i64 (addI .i64 (addI .i64 (mulI .i64 (addI .i64 (mulI .i64 a9 a1) a8) y11) 2) 4) a10) (fun y27 y28 y29 y30 y31 =>
    bif (neI y31 0) then
     kr 0 1
    else
    bif (notB ((eqI y27 a7) && ((eqI y28 a8) && ((eqI y29 a9) && ((eqI y30 a10) && true))))) then
     kr 0 1
    else
    kr (addI .i64 (addI .i64 (addI .i64 (mulI .i64 (addI .i64 (mulI .i64 a9 a1) a8) y11) 2) 4) a10) 0)
  else
  bif (eqI a7 5) then
   p50 a1 a2 a3 a4 a6 (addI .i64 (addI .i64 (addI .i64 (addI .i64 (mulI .i64 (addI .i64 (mulI .i64 a9 a1) a8) y11) 2) 4) a3) a10) (fun y32 y33 y34 y35 y36 =>
    bif (neI y36 0) then
     kr 0 1
    else
    bif (notB ((eqI y32 a7) && ((eqI y33 a8) && ((eqI y34 a9) && ((eqI y35 a10) && true))))) then
     kr 0 1
    else
    kr (addI .i64 (addI .i64 (addI .i64 (addI .i64 (mulI .i64 (addI .i64 (mulI .i64 a9 a1) a8) y11) 2) 4) a3) a10) 0)
  else
  bif (eqI a7 6) then
   p78 a1 a2 a3 a4 a6 (fun y37 =>
    p50 a1 a2 a3 a4 a6 (addI .i64 y37 a10) (fun y38 y39 y40 y41 y42 =>
     bif (neI y42 0) then
      kr 0 1
     else
     bif (notB ((eqI y38 a7) && ((eqI y39 a8) && ((eqI y40 a9) && ((eqI y41 a10) && true))))) then
      kr 0 1
     else
     kr (addI .i64 y37 a10) 0))
  else
  bif (eqI a7 7) then
   p78 a1 a2 a3 a4 a6 (fun y43 =>
    p50 a1 a2 a3 a4 a6 (addI .i64 (addI .i64 y43 a4) a10) (fun y44 y45 y46 y47 y48 =>
     bif (neI y48 0) then
      kr 0 1
     else
     bif (notB ((eqI y44 a7) && ((eqI y45 a8) && ((eqI y46 a9) && ((eqI y47 a10) && true))))) then
      kr 0 1
     else
     kr (addI .i64 (addI .i64 y43 a4) a10) 0))
  else
  p50 a1 a2 a3 a4 a6 (-1) (fun y49 y50 y51 y52 y53 =>
   bif (neI y53 0) then
    kr 0 1
   else
   bif (notB ((eqI y49 a7) && ((eqI y50 a8) && ((eqI y51 a9) && ((eqI y52 a10) && true))))) then
    kr 0 1
   else
   kr (-1) 0))
def f83 {R : Type} (M : Nat) (a1 a2 a3 a4 : Int) (a6 : List Int) (a7 a8 a9 a10 : Int) (kr : Int → Int → Option R) : Option R :=
  f83T (f50 M) (f78 M) (f80 M) a1 a2 a3 a4 a6 a7 a8 a9 a10 kr
def w37 (P : (R : Type) → T37 R) : Fk := fun R xs k => match xs with
  | [.agg [.int .i64 a1, .int .i64 a2, .int .i64 a3, .int .i64 a4, .ints _ .i64 a6]] => P R a1 a2 a3 a4 a6 (fun y0 y1 y2 y3 => k [.agg [.ints .new .i64 y0, .ints .new .i64 y1, .ints .new .i64 y2, .ints .new .i64 y3]])
  | _ => none
def w23 (P : (R : Type) → T23 R) : Fk := fun R xs k => match xs with
  | [.agg [.vals _ 151 a2, .vals _ 120 a4, .vals _ 151 a6, .ints _ .i64 a8], .agg [.int .i64 a9, .int .i64 a10, .int .i64 a11, .int .i64 a12, .ints _ .i64 a14], .agg [.ints _ .i64 a16, .vals _ 115 a18]] => P R a2 a4 a6 a8 a9 a10 a11 a12 a14 a16 a18 (fun y0 y1 y2 y3 y4 => k [.agg [.ints .new .i64 y0, .ints .new .i64 y1, .ints .new .i64 y2, .ints .new .i64 y3, .int .i64 y4]])
  | _ => none
abbrev qf23L50 (t45 t46 t47 t48 t49 t50 t51 : Tag) (p0 : Int) (p1 p2 p3 : List V) (p4 : List Int) (p5 p6 p7 p8 : Int) (p9 p10 : List Int) (p11 : List V) (p12 : Int) (p13 p14 p15 p16 p17 p18 p19 p20 : List Int) : St := { t := [(3, .ptr 0 0), (4, .ptr 1 0), (5, .ptr 2 0), (6, .ptr 3 0), (7, .ptr 8 0), (8, .int .i64 p0)], h := [(0, .cells [.vals t45 151 p1, .vals t46 120 p2, .vals t47 151 p3, .ints t48 .i64 p4]), (1, .cells [.int .i64 p5, .int .i64 p6, .int .i64 p7, .int .i64 p8, .ints t49 .i64 p9]), (2, .cells [.ints t50 .i64 p10, .vals t51 115 p11]), (3, .cells [.own 4, .own 5, .own 6, .own 7, .int .i64 p12]), (4, .ints .i64 p13), (5, .ints .i64 p14), (6, .ints .i64 p15), (7, .ints .i64 p16), (8, .cells [.own 9, .own 10, .own 11, .own 12]), (9, .ints .i64 p17), (10, .ints .i64 p18), (11, .ints .i64 p19), (12, .ints .i64 p20)], fz := [], nx := 13, lo := 0 }
abbrev ef23L50 (t45 t46 t47 t48 t49 t50 t51 : Tag) (p0 : Int) (p1 : Bool) (p2 p3 p4 : List V) (p5 : List Int) (p6 p7 p8 p9 : Int) (p10 p11 : List Int) (p12 : List V) (p13 : Int) (p14 p15 p16 p17 p18 p19 p20 p21 : List Int) : St := { t := [(3, .ptr 0 0), (4, .ptr 1 0), (5, .ptr 2 0), (6, .ptr 3 0), (7, .ptr 8 0), (8, .int .i64 p0), (26, .bool p1)], h := [(0, .cells [.vals t45 151 p2, .vals t46 120 p3, .vals t47 151 p4, .ints t48 .i64 p5]), (1, .cells [.int .i64 p6, .int .i64 p7, .int .i64 p8, .int .i64 p9, .ints t49 .i64 p10]), (2, .cells [.ints t50 .i64 p11, .vals t51 115 p12]), (3, .cells [.own 4, .own 5, .own 6, .own 7, .int .i64 p13]), (4, .ints .i64 p14), (5, .ints .i64 p15), (6, .ints .i64 p16), (7, .ints .i64 p17), (8, .cells [.own 9, .own 10, .own 11, .own 12]), (9, .ints .i64 p18), (10, .ints .i64 p19), (11, .ints .i64 p20), (12, .ints .i64 p21)], fz := [], nx := 13, lo := 0 }
def smf23L5 (S : (R : Type) → Tf23L5 R) (fb : LOT) : Sm := { d := 40, f := 23, r := 5, p := (qf23L50 .frz .frz .frz .frz .frz .frz .frz 0 [] [] [] [] 0 0 0 0 [] [] [] 0 [] [] [] [] [] [] [] []), s := fun R l k => match l with
  | .int x24 :: .vals t45 x25 :: .vals t46 x26 :: .vals t47 x27 :: .ints t48 x28 :: .int x29 :: .int x30 :: .int x31 :: .int x32 :: .ints t49 x33 :: .ints t50 x34 :: .vals t51 x35 :: .int x36 :: .ints _ x37 :: .ints _ x38 :: .ints _ x39 :: .ints _ x40 :: .ints _ x41 :: .ints _ x42 :: .ints _ x43 :: .ints _ x44 :: [] => S R x25 x26 x27 x28 x29 x30 x31 x32 x33 x34 x35 x36 x37 x38 x39 x40 x41 x24 x42 x43 x44 (fun z0 z1 z2 z3 z4 => k (.exit 0) (ef23L50 t45 t46 t47 t48 t49 t50 t51 z0 z1 x25 x26 x27 x28 x29 x30 x31 x32 x33 x34 x35 x36 x37 x38 x39 x40 x41 z2 z3 z4))
  | l => match fillS (qf23L50 .frz .frz .frz .frz .frz .frz .frz 0 [] [] [] [] 0 0 0 0 [] [] [] 0 [] [] [] [] [] [] [] []) l with
    | some st => fb R 40 23 5 st k
    | none => none }
abbrev qf23L220 (t100 t98 t99 : Tag) (p0 p1 p2 p3 p4 p5 : Int) (p6 p7 : List Int) (p8 : List V) (p9 : Int) (p10 p11 p12 p13 p14 p15 p16 p17 : List Int) (p18 : Int) (p19 p20 : List Int) : St := { t := [(4, .ptr 0 0), (5, .ptr 1 0), (6, .ptr 2 0), (7, .ptr 7 0), (11, .int .i64 p0), (12, .ptr 12 0), (13, .int .i64 p1)], h := [(0, .cells [.int .i64 p2, .int .i64 p3, .int .i64 p4, .int .i64 p5, .ints t98 .i64 p6]), (1, .cells [.ints t99 .i64 p7, .vals t100 115 p8]), (2, .cells [.own 3, .own 4, .own 5, .own 6, .int .i64 p9]), (3, .ints .i64 p10), (4, .ints .i64 p11), (5, .ints .i64 p12), (6, .ints .i64 p13), (7, .cells [.own 8, .own 9, .own 10, .own 11]), (8, .ints .i64 p14), (9, .ints .i64 p15), (10, .ints .i64 p16), (11, .ints .i64 p17), (12, .cells [.int .i64 p18, .ints .frz .i64 p19, .ints .frz .i64 p20])], fz := [], nx := 13, lo := 0 }
abbrev ef23L220 (t100 t98 t99 : Tag) (p0 p1 : Int) (p2 : Bool) (p3 p4 p5 p6 : Int) (p7 p8 : List Int) (p9 : List V) (p10 : Int) (p11 p12 p13 p14 p15 p16 p17 p18 : List Int) (p19 : Int) (p20 p21 : List Int) : St := { t := [(4, .ptr 0 0), (5, .ptr 1 0), (6, .ptr 2 0), (7, .ptr 7 0), (11, .int .i64 p0), (12, .ptr 12 0), (13, .int .i64 p1), (99, .bool p2)], h := [(0, .cells [.int .i64 p3, .int .i64 p4, .int .i64 p5, .int .i64 p6, .ints t98 .i64 p7]), (1, .cells [.ints t99 .i64 p8, .vals t100 115 p9]), (2, .cells [.own 3, .own 4, .own 5, .own 6, .int .i64 p10]), (3, .ints .i64 p11), (4, .ints .i64 p12), (5, .ints .i64 p13), (6, .ints .i64 p14), (7, .cells [.own 8, .own 9, .own 10, .own 11]), (8, .ints .i64 p15), (9, .ints .i64 p16), (10, .ints .i64 p17), (11, .ints .i64 p18), (12, .cells [.int .i64 p19, .ints .frz .i64 p20, .ints .frz .i64 p21])], fz := [], nx := 13, lo := 0 }
def smf23L22 (S : (R : Type) → Tf23L22 R) (fb : LOT) : Sm := { d := 40, f := 23, r := 22, p := (qf23L220 .frz .frz .frz 0 0 0 0 0 0 [] [] [] 0 [] [] [] [] [] [] [] [] 0 [] []), s := fun R l k => match l with
  | .int x77 :: .int x78 :: .int x79 :: .int x80 :: .int x81 :: .int x82 :: .ints t98 x83 :: .ints t99 x84 :: .vals t100 x85 :: .int x86 :: .ints _ x87 :: .ints _ x88 :: .ints _ x89 :: .ints _ x90 :: .ints _ x91 :: .ints _ x92 :: .ints _ x93 :: .ints _ x94 :: .int x95 :: .ints .frz x96 :: .ints .frz x97 :: [] => S R x77 x79 x80 x81 x82 x83 x84 x85 x86 x87 x88 x89 x90 x92 x93 x94 x95 x96 x97 x78 x91 (fun z0 z1 z2 => k (.exit 5) (ef23L220 t100 t98 t99 x77 z0 z1 x79 x80 x81 x82 x83 x84 x85 x86 x87 x88 x89 x90 z2 x92 x93 x94 x95 x96 x97))
  | l => match fillS (qf23L220 .frz .frz .frz 0 0 0 0 0 0 [] [] [] 0 [] [] [] [] [] [] [] [] 0 [] []) l with
    | some st => fb R 40 23 22 st k
    | none => none }
abbrev qf23L180 (t74 t75 t76 : Tag) (p0 p1 p2 p3 p4 : Int) (p5 p6 : List Int) (p7 : List V) (p8 : Int) (p9 p10 p11 p12 p13 p14 p15 p16 : List Int) : St := { t := [(4, .ptr 0 0), (5, .ptr 1 0), (6, .ptr 2 0), (7, .ptr 7 0), (11, .int .i64 p0)], h := [(0, .cells [.int .i64 p1, .int .i64 p2, .int .i64 p3, .int .i64 p4, .ints t74 .i64 p5]), (1, .cells [.ints t75 .i64 p6, .vals t76 115 p7]), (2, .cells [.own 3, .own 4, .own 5, .own 6, .int .i64 p8]), (3, .ints .i64 p9), (4, .ints .i64 p10), (5, .ints .i64 p11), (6, .ints .i64 p12), (7, .cells [.own 8, .own 9, .own 10, .own 11]), (8, .ints .i64 p13), (9, .ints .i64 p14), (10, .ints .i64 p15), (11, .ints .i64 p16)], fz := [], nx := 12, lo := 0 }
abbrev ef23L180 (t74 t75 t76 : Tag) (p0 : Int) (p1 : Bool) (p2 p3 p4 p5 : Int) (p6 p7 : List Int) (p8 : List V) (p9 : Int) (p10 p11 p12 p13 p14 p15 p16 p17 : List Int) : St := { t := [(4, .ptr 0 0), (5, .ptr 1 0), (6, .ptr 2 0), (7, .ptr 7 0), (11, .int .i64 p0), (87, .bool p1)], h := [(0, .cells [.int .i64 p2, .int .i64 p3, .int .i64 p4, .int .i64 p5, .ints t74 .i64 p6]), (1, .cells [.ints t75 .i64 p7, .vals t76 115 p8]), (2, .cells [.own 3, .own 4, .own 5, .own 6, .int .i64 p9]), (3, .ints .i64 p10), (4, .ints .i64 p11), (5, .ints .i64 p12), (6, .ints .i64 p13), (7, .cells [.own 8, .own 9, .own 10, .own 11]), (8, .ints .i64 p14), (9, .ints .i64 p15), (10, .ints .i64 p16), (11, .ints .i64 p17)], fz := [], nx := 12, lo := 0 }
def smf23L18 (S : (R : Type) → Tf23L18 R) (fb : LOT) : Sm := { d := 40, f := 23, r := 18, p := (qf23L180 .frz .frz .frz 0 0 0 0 0 [] [] [] 0 [] [] [] [] [] [] [] []), s := fun R l k => match l with
  | .int x57 :: .int x58 :: .int x59 :: .int x60 :: .int x61 :: .ints t74 x62 :: .ints t75 x63 :: .vals t76 x64 :: .int x65 :: .ints _ x66 :: .ints _ x67 :: .ints _ x68 :: .ints _ x69 :: .ints _ x70 :: .ints _ x71 :: .ints _ x72 :: .ints _ x73 :: [] => S R x58 x59 x60 x61 x62 x63 x64 x65 x66 x67 x68 x69 x71 x72 x73 x57 x70 (fun z0 z1 z2 => k (.exit 3) (ef23L180 t74 t75 t76 z0 z1 x58 x59 x60 x61 x62 x63 x64 x65 x66 x67 x68 x69 z2 x71 x72 x73))
  | l => match fillS (qf23L180 .frz .frz .frz 0 0 0 0 0 [] [] [] 0 [] [] [] [] [] [] [] []) l with
    | some st => fb R 40 23 18 st k
    | none => none }
def w24 (P : (R : Type) → T24 R) : Fk := fun R xs k => match xs with
  | [.agg [.int .i64 a1, .int .i64 a2, .int .i64 a3, .int .i64 a4, .ints _ .i64 a6], .ints _ .u8 a8] => P R a1 a2 a3 a4 a6 a8 (fun y0 y1 y2 y3 => k [.agg [.ints .new .i64 y0, .ints .new .i64 y1, .ints .new .i64 y2, .ints .new .i64 y3]])
  | _ => none
abbrev qf24L30 (t28 t29 : Tag) (p0 : List Int) (p1 p2 p3 p4 p5 : Int) (p6 p7 p8 p9 p10 p11 p12 p13 p14 : List Int) : St := { t := [(1, .ints t28 .u8 p0), (2, .ptr 0 0), (4, .ptr 1 0), (5, .ptr 6 0), (6, .int .i64 p1)], h := [(0, .cells [.int .i64 p2, .int .i64 p3, .int .i64 p4, .int .i64 p5, .ints t29 .i64 p6]), (1, .cells [.own 2, .own 3, .own 4, .own 5]), (2, .ints .i64 p7), (3, .ints .i64 p8), (4, .ints .i64 p9), (5, .ints .i64 p10), (6, .cells [.own 7, .own 8, .own 9, .own 10]), (7, .ints .i64 p11), (8, .ints .i64 p12), (9, .ints .i64 p13), (10, .ints .i64 p14)], fz := [], nx := 11, lo := 0 }
abbrev ef24L30 (t28 t29 : Tag) (p0 : List Int) (p1 : Int) (p2 : Bool) (p3 p4 p5 p6 : Int) (p7 p8 p9 p10 p11 p12 p13 p14 p15 : List Int) : St := { t := [(1, .ints t28 .u8 p0), (2, .ptr 0 0), (4, .ptr 1 0), (5, .ptr 6 0), (6, .int .i64 p1), (20, .bool p2)], h := [(0, .cells [.int .i64 p3, .int .i64 p4, .int .i64 p5, .int .i64 p6, .ints t29 .i64 p7]), (1, .cells [.own 2, .own 3, .own 4, .own 5]), (2, .ints .i64 p8), (3, .ints .i64 p9), (4, .ints .i64 p10), (5, .ints .i64 p11), (6, .cells [.own 7, .own 8, .own 9, .own 10]), (7, .ints .i64 p12), (8, .ints .i64 p13), (9, .ints .i64 p14), (10, .ints .i64 p15)], fz := [], nx := 11, lo := 0 }
def smf24L3 (S : (R : Type) → Tf24L3 R) (fb : LOT) : Sm := { d := 40, f := 24, r := 3, p := (qf24L30 .frz .frz [] 0 0 0 0 0 [] [] [] [] [] [] [] [] []), s := fun R l k => match l with
  | .ints t28 x13 :: .int x14 :: .int x15 :: .int x16 :: .int x17 :: .int x18 :: .ints t29 x19 :: .ints _ x20 :: .ints _ x21 :: .ints _ x22 :: .ints _ x23 :: .ints _ x24 :: .ints _ x25 :: .ints _ x26 :: .ints _ x27 :: [] => S R x13 x15 x16 x17 x18 x19 x20 x21 x22 x23 x14 x24 x25 x26 x27 (fun z0 z1 z2 z3 z4 z5 => k (.exit 0) (ef24L30 t28 t29 x13 z0 z1 x15 x16 x17 x18 x19 x20 x21 x22 x23 z2 z3 z4 z5))
  | l => match fillS (qf24L30 .frz .frz [] 0 0 0 0 0 [] [] [] [] [] [] [] [] []) l with
    | some st => fb R 40 24 3 st k
    | none => none }
def w47 (P : (R : Type) → T47 R) : Fk := fun R xs k => match xs with
  | [.agg [.int .i64 a1, .int .i64 a2, .int .i64 a3, .int .i64 a4, .ints _ .i64 a6], .agg [.ints _ .i64 a8, .ints _ .i64 a10, .ints _ .i64 a12, .ints _ .i64 a14]] => P R a1 a2 a3 a4 a6 a8 a10 a12 a14 (fun y0 => k [.ints .new .i64 y0])
  | _ => none
abbrev qf47L30 (t26 t27 t28 t29 t30 : Tag) (p0 p1 p2 p3 p4 : Int) (p5 p6 p7 p8 p9 p10 : List Int) : St := { t := [(2, .ptr 0 0), (3, .ptr 1 0), (5, .own 2), (6, .int .i64 p0)], h := [(0, .cells [.int .i64 p1, .int .i64 p2, .int .i64 p3, .int .i64 p4, .ints t26 .i64 p5]), (1, .cells [.ints t27 .i64 p6, .ints t28 .i64 p7, .ints t29 .i64 p8, .ints t30 .i64 p9]), (2, .ints .i64 p10)], fz := [], nx := 3, lo := 0 }
abbrev ef47L30 (t26 t27 t28 t29 t30 : Tag) (p0 : Int) (p1 : Bool) (p2 p3 p4 p5 : Int) (p6 p7 p8 p9 p10 p11 : List Int) : St := { t := [(2, .ptr 0 0), (3, .ptr 1 0), (5, .own 2), (6, .int .i64 p0), (13, .bool p1)], h := [(0, .cells [.int .i64 p2, .int .i64 p3, .int .i64 p4, .int .i64 p5, .ints t26 .i64 p6]), (1, .cells [.ints t27 .i64 p7, .ints t28 .i64 p8, .ints t29 .i64 p9, .ints t30 .i64 p10]), (2, .ints .i64 p11)], fz := [], nx := 3, lo := 0 }
def smf47L3 (S : (R : Type) → Tf47L3 R) (fb : LOT) : Sm := { d := 40, f := 47, r := 3, p := (qf47L30 .frz .frz .frz .frz .frz 0 0 0 0 0 [] [] [] [] [] []), s := fun R l k => match l with
  | .int x15 :: .int x16 :: .int x17 :: .int x18 :: .int x19 :: .ints t26 x20 :: .ints t27 x21 :: .ints t28 x22 :: .ints t29 x23 :: .ints t30 x24 :: .ints _ x25 :: [] => S R x16 x17 x18 x19 x20 x21 x22 x23 x24 x15 x25 (fun z0 z1 z2 => k (.exit 0) (ef47L30 t26 t27 t28 t29 t30 z0 z1 x16 x17 x18 x19 x20 x21 x22 x23 x24 z2))
  | l => match fillS (qf47L30 .frz .frz .frz .frz .frz 0 0 0 0 0 [] [] [] [] [] []) l with
    | some st => fb R 40 47 3 st k
    | none => none }
def w25 (P : (R : Type) → T25 R) : Fk := fun R xs k => match xs with
  | [.agg [.int .i64 a1, .int .i64 a2, .int .i64 a3, .int .i64 a4, .ints .frz .i64 a5], .agg [.ints .frz .i64 a6, .ints .frz .i64 a7, .ints .frz .i64 a8, .ints .frz .i64 a9]] => P R a1 a2 a3 a4 a5 a6 a7 a8 a9 (fun y0 y1 y2 y3 y4 y5 y6 y7 y8 y9 y10 y11 y12 => k [.agg [.int .i64 y0, .int .i64 y1, .int .i64 y2, .int .i64 y3, .ints .frz .i64 y4, .ints .frz .i64 y5, .ints .frz .i64 y6, .ints .frz .i64 y7, .ints .frz .i64 y8, .ints .new .i64 y9, .ints .new .i64 y10, .vals .new 29 y11, .bools .new y12]])
  | _ => none
def w16 (P : (R : Type) → T16 R) : Fk := fun R xs k => match xs with
  | [.agg [.int .i64 a1, .int .i64 a2, .int .i64 a3, .int .i64 a4, .ints .frz .i64 a5, .ints .frz .i64 a6, .ints .frz .i64 a7, .ints .frz .i64 a8, .ints .frz .i64 a9, .ints .frz .i64 a10, .ints .frz .i64 a11, .vals .frz 29 a12, .bools .frz a13], .agg [.ints .frz .i64 a14, .vals .frz 29 a15], .bools .frz a16] => P R a1 a2 a3 a4 a5 a6 a7 a8 a9 a10 a11 a12 a13 a14 a15 a16 (fun y0 y1 y2 y3 y4 y5 y6 y7 y8 y9 y10 y11 y12 => k [.agg [.int .i64 y0, .int .i64 y1, .int .i64 y2, .int .i64 y3, .ints .frz .i64 y4, .ints .frz .i64 y5, .ints .frz .i64 y6, .ints .frz .i64 y7, .ints .frz .i64 y8, .ints .frz .i64 y9, .ints .frz .i64 y10, .vals .frz 29 y11, .bools .frz y12]])
  | _ => none
def w17 (P : (R : Type) → T17 R) : Fk := fun R xs k => match xs with
  | [.bools _ a2, .int .i64 a3] => P R a2 a3 (fun y0 => k [.bools .new y0])
  | _ => none
def w7 (P : (R : Type) → T7 R) : Fk := fun R xs k => match xs with
  | [.agg [.int .u8 a1, .int .u8 a2, .int .u8 a3, .int .u8 a4, .ints _ .u8 a6, .vals _ 155 a8, .vals _ 22 a10, .ints _ .u8 a12, .vals _ 155 a14, .vals _ 155 a16, .ints _ .i64 a18, .vals _ 29 a20, .vals _ 166 a22, .bools _ a24, .ints _ .u8 a26, .ints _ .u8 a28]] => P R a1 a2 a3 a4 a6 a8 a10 a12 a14 a16 a18 a20 a22 a24 a26 a28 (fun y0 => k [.bool y0])
  | _ => none
abbrev qf7L30 (t47 t48 t49 t50 t51 t52 t53 t54 t55 t56 t57 t58 : Tag) (p0 p1 p2 p3 p4 p5 : Int) (p6 : List Int) (p7 p8 : List V) (p9 : List Int) (p10 p11 : List V) (p12 : List Int) (p13 p14 : List V) (p15 : List Bool) (p16 p17 : List Int) : St := { t := [(1, .ptr 0 0), (3, .int .i64 p0), (4, .int .i64 p1)], h := [(0, .cells [.int .u8 p2, .int .u8 p3, .int .u8 p4, .int .u8 p5, .ints t47 .u8 p6, .vals t48 155 p7, .vals t49 22 p8, .ints t50 .u8 p9, .vals t51 155 p10, .vals t52 155 p11, .ints t53 .i64 p12, .vals t54 29 p13, .vals t55 166 p14, .bools t56 p15, .ints t57 .u8 p16, .ints t58 .u8 p17])], fz := [], nx := 1, lo := 0 }
abbrev ef7L30 (t47 t48 t49 t50 t51 t52 t53 t54 t55 t56 t57 t58 : Tag) (p0 p1 : Int) (p2 : Bool) (p3 p4 p5 p6 : Int) (p7 : List Int) (p8 p9 : List V) (p10 : List Int) (p11 p12 : List V) (p13 : List Int) (p14 p15 : List V) (p16 : List Bool) (p17 p18 : List Int) : St := { t := [(1, .ptr 0 0), (3, .int .i64 p0), (4, .int .i64 p1), (29, .bool p2)], h := [(0, .cells [.int .u8 p3, .int .u8 p4, .int .u8 p5, .int .u8 p6, .ints t47 .u8 p7, .vals t48 155 p8, .vals t49 22 p9, .ints t50 .u8 p10, .vals t51 155 p11, .vals t52 155 p12, .ints t53 .i64 p13, .vals t54 29 p14, .vals t55 166 p15, .bools t56 p16, .ints t57 .u8 p17, .ints t58 .u8 p18])], fz := [], nx := 1, lo := 0 }
def smf7L3 (S : (R : Type) → Tf7L3 R) (fb : LOT) : Sm := { d := 40, f := 7, r := 3, p := (qf7L30 .frz .frz .frz .frz .frz .frz .frz .frz .frz .frz .frz .frz 0 0 0 0 0 0 [] [] [] [] [] [] [] [] [] [] [] []), s := fun R l k => match l with
  | .int x29 :: .int x30 :: .int x31 :: .int x32 :: .int x33 :: .int x34 :: .ints t47 x35 :: .vals t48 x36 :: .vals t49 x37 :: .ints t50 x38 :: .vals t51 x39 :: .vals t52 x40 :: .ints t53 x41 :: .vals t54 x42 :: .vals t55 x43 :: .bools t56 x44 :: .ints t57 x45 :: .ints t58 x46 :: [] => S R x31 x32 x33 x34 x35 x36 x37 x38 x39 x40 x41 x42 x43 x44 x45 x46 x29 x30 (fun z0 z1 z2 => k (.exit 0) (ef7L30 t47 t48 t49 t50 t51 t52 t53 t54 t55 t56 t57 t58 z0 z1 z2 x31 x32 x33 x34 x35 x36 x37 x38 x39 x40 x41 x42 x43 x44 x45 x46))
  | l => match fillS (qf7L30 .frz .frz .frz .frz .frz .frz .frz .frz .frz .frz .frz .frz 0 0 0 0 0 0 [] [] [] [] [] [] [] [] [] [] [] []) l with
    | some st => fb R 40 7 3 st k
    | none => none }
def w50 (P : (R : Type) → T50 R) : Fk := fun R xs k => match xs with
  | [.agg [.int .i64 a1, .int .i64 a2, .int .i64 a3, .int .i64 a4, .ints _ .i64 a6], .int .i64 a7] => P R a1 a2 a3 a4 a6 a7 (fun y0 y1 y2 y3 y4 => k [.agg [.int .i64 y0, .int .i64 y1, .int .i64 y2, .int .i64 y3], .int .i64 y4])
  | _ => none
def w83 (P : (R : Type) → T83 R) : Fk := fun R xs k => match xs with
  | [.agg [.int .i64 a1, .int .i64 a2, .int .i64 a3, .int .i64 a4, .ints _ .i64 a6], .agg [.int .i64 a7, .int .i64 a8, .int .i64 a9, .int .i64 a10]] => P R a1 a2 a3 a4 a6 a7 a8 a9 a10 (fun y0 y1 => k [.int .i64 y0, .int .i64 y1])
  | _ => none
theorem f37_seg {R : Type} (P41 : (R : Type) → T41 R) (LO : LOT) (k : List V → Option R) (t5 : Tag) (a1 a2 a3 a4 : Int) (a6 : List Int) :
    pureBodyLK env (callsL env (tabOf [(41, w41 P41)]) spG (LOs [] LO) [] 40) 37 ((LOs [] LO) R 40 37) [.agg [.int .i64 a1, .int .i64 a2, .int .i64 a3, .int .i64 a4, .ints t5 .i64 a6]] k =
      f37T (P41 R) a1 a2 a3 a4 a6 (fun y0 y1 y2 y3 => k [.agg [.ints .new .i64 y0, .ints .new .i64 y1, .ints .new .i64 y2, .ints .new .i64 y3]]) := by kernel_rfl
theorem f23L5_seg {R : Type} (P37 : (R : Type) → T37 R) (P43 : (R : Type) → T43 R) (P44 : (R : Type) → T44 R) (P45 : (R : Type) → T45 R) (LO : LOT) (g : St → Option R) (k : Ex → St → Option R) (t45 t46 t47 t48 t49 t50 t51 : Tag) (x25 x26 x27 : List V) (x28 : List Int) (x29 x30 x31 x32 : Int) (x33 x34 : List Int) (x35 : List V) (x36 : Int) (x37 x38 x39 x40 x41 : List Int) (x24 : Int) (x42 x43 x44 : List Int) :
    execL env (callsL env (tabOf [(37, w37 P37), (43, w43 P43), (44, w44 P44), (45, w45 P45)]) spG (LOs [] LO) [] 40) 23 ((LOs [] LO) R 40 23) ((loopOf env 23 5).getD .skip) (qf23L50 t45 t46 t47 t48 t49 t50 t51 x24 x25 x26 x27 x28 x29 x30 x31 x32 x33 x34 x35 x36 x37 x38 x39 x40 x41 x42 x43 x44) (bodyK env 23 5 g k) =
      f23L5 x25 x26 x27 x28 x29 x30 x31 x32 x33 x34 x35 x36 x37 x38 x39 x40 x41 (fun z0 z1 z2 z3 z4 => k (.exit 0) (ef23L50 t45 t46 t47 t48 t49 t50 t51 z0 z1 x25 x26 x27 x28 x29 x30 x31 x32 x33 x34 x35 x36 x37 x38 x39 x40 x41 z2 z3 z4)) (fun y0 y1 y2 y3 => g (qf23L50 t45 t46 t47 t48 t49 t50 t51 y0 x25 x26 x27 x28 x29 x30 x31 x32 x33 x34 x35 x36 x37 x38 x39 x40 x41 y1 y2 y3)) x24 x42 x43 x44 := by kernel_rfl
theorem f23L22_seg {R : Type} (P37 : (R : Type) → T37 R) (P43 : (R : Type) → T43 R) (P44 : (R : Type) → T44 R) (P45 : (R : Type) → T45 R) (LO : LOT) (g : St → Option R) (k : Ex → St → Option R) (t100 t98 t99 : Tag) (x77 x79 x80 x81 x82 : Int) (x83 x84 : List Int) (x85 : List V) (x86 : Int) (x87 x88 x89 x90 x92 x93 x94 : List Int) (x95 : Int) (x96 x97 : List Int) (x78 : Int) (x91 : List Int) :
    execL env (callsL env (tabOf [(37, w37 P37), (43, w43 P43), (44, w44 P44), (45, w45 P45)]) spG (LOs [] LO) [] 40) 23 ((LOs [] LO) R 40 23) ((loopOf env 23 22).getD .skip) (qf23L220 t100 t98 t99 x77 x78 x79 x80 x81 x82 x83 x84 x85 x86 x87 x88 x89 x90 x91 x92 x93 x94 x95 x96 x97) (bodyK env 23 22 g k) =
      f23L22 (P44 R) (P45 R) x77 x79 x80 x81 x82 x83 x84 x85 x86 x87 x88 x89 x90 x92 x93 x94 x95 x96 x97 (fun z0 z1 z2 => k (.exit 5) (ef23L220 t100 t98 t99 x77 z0 z1 x79 x80 x81 x82 x83 x84 x85 x86 x87 x88 x89 x90 z2 x92 x93 x94 x95 x96 x97)) (fun y0 y1 => g (qf23L220 t100 t98 t99 x77 y0 x79 x80 x81 x82 x83 x84 x85 x86 x87 x88 x89 x90 y1 x92 x93 x94 x95 x96 x97)) x78 x91 := by kernel_rfl
theorem f23L18_seg {R : Type} (P37 : (R : Type) → T37 R) (P43 : (R : Type) → T43 R) (P44 : (R : Type) → T44 R) (P45 : (R : Type) → T45 R) (Sf23L22 : (R : Type) → Tf23L22 R) (LO : LOT) (g : St → Option R) (k : Ex → St → Option R) (t74 t75 t76 : Tag) (x58 x59 x60 x61 : Int) (x62 x63 : List Int) (x64 : List V) (x65 : Int) (x66 x67 x68 x69 x71 x72 x73 : List Int) (x57 : Int) (x70 : List Int) :
    execL env (callsL env (tabOf [(37, w37 P37), (43, w43 P43), (44, w44 P44), (45, w45 P45)]) spG (LOs [smf23L22 Sf23L22 LO] LO) [] 40) 23 ((LOs [smf23L22 Sf23L22 LO] LO) R 40 23) ((loopOf env 23 18).getD .skip) (qf23L180 t74 t75 t76 x57 x58 x59 x60 x61 x62 x63 x64 x65 x66 x67 x68 x69 x70 x71 x72 x73) (bodyK env 23 18 g k) =
      f23L18 (Sf23L22 R) x58 x59 x60 x61 x62 x63 x64 x65 x66 x67 x68 x69 x71 x72 x73 (fun z0 z1 z2 => k (.exit 3) (ef23L180 t74 t75 t76 z0 z1 x58 x59 x60 x61 x62 x63 x64 x65 x66 x67 x68 x69 z2 x71 x72 x73)) (fun y0 y1 => g (qf23L180 t74 t75 t76 y0 x58 x59 x60 x61 x62 x63 x64 x65 x66 x67 x68 x69 y1 x71 x72 x73)) x57 x70 := by kernel_rfl
theorem f23_seg {R : Type} (P37 : (R : Type) → T37 R) (P43 : (R : Type) → T43 R) (P44 : (R : Type) → T44 R) (P45 : (R : Type) → T45 R) (Sf23L5 : (R : Type) → Tf23L5 R) (Sf23L18 : (R : Type) → Tf23L18 R) (LO : LOT) (k : List V → Option R) (t1 t3 t5 t7 t13 t15 t17 : Tag) (a2 a4 a6 : List V) (a8 : List Int) (a9 a10 a11 a12 : Int) (a14 a16 : List Int) (a18 : List V) :
    pureBodyLK env (callsL env (tabOf [(37, w37 P37), (43, w43 P43), (44, w44 P44), (45, w45 P45)]) spG (LOs [smf23L5 Sf23L5 LO, smf23L18 Sf23L18 LO] LO) [] 40) 23 ((LOs [smf23L5 Sf23L5 LO, smf23L18 Sf23L18 LO] LO) R 40 23) [.agg [.vals t1 151 a2, .vals t3 120 a4, .vals t5 151 a6, .ints t7 .i64 a8], .agg [.int .i64 a9, .int .i64 a10, .int .i64 a11, .int .i64 a12, .ints t13 .i64 a14], .agg [.ints t15 .i64 a16, .vals t17 115 a18]] k =
      f23T (P37 R) (P43 R) (Sf23L5 R) (Sf23L18 R) a2 a4 a6 a8 a9 a10 a11 a12 a14 a16 a18 (fun y0 y1 y2 y3 y4 => k [.agg [.ints .new .i64 y0, .ints .new .i64 y1, .ints .new .i64 y2, .ints .new .i64 y3, .int .i64 y4]]) := by kernel_rfl
theorem f24L3_seg {R : Type} (P37 : (R : Type) → T37 R) (P46 : (R : Type) → T46 R) (LO : LOT) (g : St → Option R) (k : Ex → St → Option R) (t28 t29 : Tag) (x13 : List Int) (x15 x16 x17 x18 : Int) (x19 x20 x21 x22 x23 : List Int) (x14 : Int) (x24 x25 x26 x27 : List Int) :
    execL env (callsL env (tabOf [(37, w37 P37), (46, w46 P46)]) spG (LOs [] LO) [] 40) 24 ((LOs [] LO) R 40 24) ((loopOf env 24 3).getD .skip) (qf24L30 t28 t29 x13 x14 x15 x16 x17 x18 x19 x20 x21 x22 x23 x24 x25 x26 x27) (bodyK env 24 3 g k) =
      f24L3 (P46 R) x13 x15 x16 x17 x18 x19 x20 x21 x22 x23 (fun z0 z1 z2 z3 z4 z5 => k (.exit 0) (ef24L30 t28 t29 x13 z0 z1 x15 x16 x17 x18 x19 x20 x21 x22 x23 z2 z3 z4 z5)) (fun y0 y1 y2 y3 y4 => g (qf24L30 t28 t29 x13 y0 x15 x16 x17 x18 x19 x20 x21 x22 x23 y1 y2 y3 y4)) x14 x24 x25 x26 x27 := by kernel_rfl
theorem f24_seg {R : Type} (P37 : (R : Type) → T37 R) (P46 : (R : Type) → T46 R) (Sf24L3 : (R : Type) → Tf24L3 R) (LO : LOT) (k : List V → Option R) (t5 t7 : Tag) (a1 a2 a3 a4 : Int) (a6 a8 : List Int) :
    pureBodyLK env (callsL env (tabOf [(37, w37 P37), (46, w46 P46)]) spG (LOs [smf24L3 Sf24L3 LO] LO) [] 40) 24 ((LOs [smf24L3 Sf24L3 LO] LO) R 40 24) [.agg [.int .i64 a1, .int .i64 a2, .int .i64 a3, .int .i64 a4, .ints t5 .i64 a6], .ints t7 .u8 a8] k =
      f24T (P37 R) (Sf24L3 R) a1 a2 a3 a4 a6 a8 (fun y0 y1 y2 y3 => k [.agg [.ints .new .i64 y0, .ints .new .i64 y1, .ints .new .i64 y2, .ints .new .i64 y3]]) := by kernel_rfl
theorem f47L3_seg {R : Type} (P45 : (R : Type) → T45 R) (LO : LOT) (g : St → Option R) (k : Ex → St → Option R) (t26 t27 t28 t29 t30 : Tag) (x16 x17 x18 x19 : Int) (x20 x21 x22 x23 x24 : List Int) (x15 : Int) (x25 : List Int) :
    execL env (callsL env (tabOf [(45, w45 P45)]) spG (LOs [] LO) [] 40) 47 ((LOs [] LO) R 40 47) ((loopOf env 47 3).getD .skip) (qf47L30 t26 t27 t28 t29 t30 x15 x16 x17 x18 x19 x20 x21 x22 x23 x24 x25) (bodyK env 47 3 g k) =
      f47L3 (P45 R) x16 x17 x18 x19 x20 x21 x22 x23 x24 (fun z0 z1 z2 => k (.exit 0) (ef47L30 t26 t27 t28 t29 t30 z0 z1 x16 x17 x18 x19 x20 x21 x22 x23 x24 z2)) (fun y0 y1 => g (qf47L30 t26 t27 t28 t29 t30 y0 x16 x17 x18 x19 x20 x21 x22 x23 x24 y1)) x15 x25 := by kernel_rfl
theorem f47_seg {R : Type} (P45 : (R : Type) → T45 R) (Sf47L3 : (R : Type) → Tf47L3 R) (LO : LOT) (k : List V → Option R) (t5 t7 t9 t11 t13 : Tag) (a1 a2 a3 a4 : Int) (a6 a8 a10 a12 a14 : List Int) :
    pureBodyLK env (callsL env (tabOf [(45, w45 P45)]) spG (LOs [smf47L3 Sf47L3 LO] LO) [] 40) 47 ((LOs [smf47L3 Sf47L3 LO] LO) R 40 47) [.agg [.int .i64 a1, .int .i64 a2, .int .i64 a3, .int .i64 a4, .ints t5 .i64 a6], .agg [.ints t7 .i64 a8, .ints t9 .i64 a10, .ints t11 .i64 a12, .ints t13 .i64 a14]] k =
      f47T (Sf47L3 R) a1 a2 a3 a4 a6 a8 a10 a12 a14 (fun y0 => k [.ints .new .i64 y0]) := by kernel_rfl
theorem f25_seg {R : Type} (P47 : (R : Type) → T47 R) (LO : LOT) (k : List V → Option R) (a1 a2 a3 a4 : Int) (a5 a6 a7 a8 a9 : List Int) :
    pureBodyLK env (callsL env (tabOf [(47, w47 P47)]) spG (LOs [] LO) [] 40) 25 ((LOs [] LO) R 40 25) [.agg [.int .i64 a1, .int .i64 a2, .int .i64 a3, .int .i64 a4, .ints .frz .i64 a5], .agg [.ints .frz .i64 a6, .ints .frz .i64 a7, .ints .frz .i64 a8, .ints .frz .i64 a9]] k =
      f25T (P47 R) a1 a2 a3 a4 a5 a6 a7 a8 a9 (fun y0 y1 y2 y3 y4 y5 y6 y7 y8 y9 y10 y11 y12 => k [.agg [.int .i64 y0, .int .i64 y1, .int .i64 y2, .int .i64 y3, .ints .frz .i64 y4, .ints .frz .i64 y5, .ints .frz .i64 y6, .ints .frz .i64 y7, .ints .frz .i64 y8, .ints .new .i64 y9, .ints .new .i64 y10, .vals .new 29 y11, .bools .new y12]]) := by kernel_rfl
theorem f16_seg {R : Type} (LO : LOT) (k : List V → Option R) (a1 a2 a3 a4 : Int) (a5 a6 a7 a8 a9 a10 a11 : List Int) (a12 : List V) (a13 : List Bool) (a14 : List Int) (a15 : List V) (a16 : List Bool) :
    pureBodyLK env (callsL env (tabOf []) spG (LOs [] LO) [] 40) 16 ((LOs [] LO) R 40 16) [.agg [.int .i64 a1, .int .i64 a2, .int .i64 a3, .int .i64 a4, .ints .frz .i64 a5, .ints .frz .i64 a6, .ints .frz .i64 a7, .ints .frz .i64 a8, .ints .frz .i64 a9, .ints .frz .i64 a10, .ints .frz .i64 a11, .vals .frz 29 a12, .bools .frz a13], .agg [.ints .frz .i64 a14, .vals .frz 29 a15], .bools .frz a16] k =
      f16T a1 a2 a3 a4 a5 a6 a7 a8 a9 a10 a11 a12 a13 a14 a15 a16 (fun y0 y1 y2 y3 y4 y5 y6 y7 y8 y9 y10 y11 y12 => k [.agg [.int .i64 y0, .int .i64 y1, .int .i64 y2, .int .i64 y3, .ints .frz .i64 y4, .ints .frz .i64 y5, .ints .frz .i64 y6, .ints .frz .i64 y7, .ints .frz .i64 y8, .ints .frz .i64 y9, .ints .frz .i64 y10, .vals .frz 29 y11, .bools .frz y12]]) := by kernel_rfl
theorem f17_seg {R : Type} (LO : LOT) (k : List V → Option R) (t1 : Tag) (a2 : List Bool) (a3 : Int) :
    pureBodyLK env (callsL env (tabOf []) spG (LOs [] LO) [] 40) 17 ((LOs [] LO) R 40 17) [.bools t1 a2, .int .i64 a3] k =
      f17T a2 a3 (fun y0 => k [.bools .new y0]) := by kernel_rfl
theorem f7L3_seg {R : Type} (LO : LOT) (g : St → Option R) (k : Ex → St → Option R) (t47 t48 t49 t50 t51 t52 t53 t54 t55 t56 t57 t58 : Tag) (x31 x32 x33 x34 : Int) (x35 : List Int) (x36 x37 : List V) (x38 : List Int) (x39 x40 : List V) (x41 : List Int) (x42 x43 : List V) (x44 : List Bool) (x45 x46 : List Int) (x29 x30 : Int) :
    execL env (callsL env (tabOf []) spG (LOs [] LO) [] 40) 7 ((LOs [] LO) R 40 7) ((loopOf env 7 3).getD .skip) (qf7L30 t47 t48 t49 t50 t51 t52 t53 t54 t55 t56 t57 t58 x29 x30 x31 x32 x33 x34 x35 x36 x37 x38 x39 x40 x41 x42 x43 x44 x45 x46) (bodyK env 7 3 g k) =
      f7L3 x31 x32 x33 x34 x35 x36 x37 x38 x39 x40 x41 x42 x43 x44 x45 x46 (fun z0 z1 z2 => k (.exit 0) (ef7L30 t47 t48 t49 t50 t51 t52 t53 t54 t55 t56 t57 t58 z0 z1 z2 x31 x32 x33 x34 x35 x36 x37 x38 x39 x40 x41 x42 x43 x44 x45 x46)) (fun y0 y1 => g (qf7L30 t47 t48 t49 t50 t51 t52 t53 t54 t55 t56 t57 t58 y0 y1 x31 x32 x33 x34 x35 x36 x37 x38 x39 x40 x41 x42 x43 x44 x45 x46)) x29 x30 := by kernel_rfl
theorem f7_seg {R : Type} (Sf7L3 : (R : Type) → Tf7L3 R) (LO : LOT) (k : List V → Option R) (t5 t7 t9 t11 t13 t15 t17 t19 t21 t23 t25 t27 : Tag) (a1 a2 a3 a4 : Int) (a6 : List Int) (a8 a10 : List V) (a12 : List Int) (a14 a16 : List V) (a18 : List Int) (a20 a22 : List V) (a24 : List Bool) (a26 a28 : List Int) :
    pureBodyLK env (callsL env (tabOf []) spG (LOs [smf7L3 Sf7L3 LO] LO) [] 40) 7 ((LOs [smf7L3 Sf7L3 LO] LO) R 40 7) [.agg [.int .u8 a1, .int .u8 a2, .int .u8 a3, .int .u8 a4, .ints t5 .u8 a6, .vals t7 155 a8, .vals t9 22 a10, .ints t11 .u8 a12, .vals t13 155 a14, .vals t15 155 a16, .ints t17 .i64 a18, .vals t19 29 a20, .vals t21 166 a22, .bools t23 a24, .ints t25 .u8 a26, .ints t27 .u8 a28]] k =
      f7T (Sf7L3 R) a1 a2 a3 a4 a6 a8 a10 a12 a14 a16 a18 a20 a22 a24 a26 a28 (fun y0 => k [.bool y0]) := by kernel_rfl
theorem f50_seg {R : Type} (P78 : (R : Type) → T78 R) (P79 : (R : Type) → T79 R) (P80 : (R : Type) → T80 R) (LO : LOT) (k : List V → Option R) (t5 : Tag) (a1 a2 a3 a4 : Int) (a6 : List Int) (a7 : Int) :
    pureBodyLK env (callsL env (tabOf [(78, w78 P78), (79, w79 P79), (80, w80 P80)]) spG (LOs [] LO) [] 40) 50 ((LOs [] LO) R 40 50) [.agg [.int .i64 a1, .int .i64 a2, .int .i64 a3, .int .i64 a4, .ints t5 .i64 a6], .int .i64 a7] k =
      f50T (P78 R) (P79 R) (P80 R) a1 a2 a3 a4 a6 a7 (fun y0 y1 y2 y3 y4 => k [.agg [.int .i64 y0, .int .i64 y1, .int .i64 y2, .int .i64 y3], .int .i64 y4]) := by kernel_rfl
theorem f83_seg {R : Type} (P50 : (R : Type) → T50 R) (P78 : (R : Type) → T78 R) (P80 : (R : Type) → T80 R) (LO : LOT) (k : List V → Option R) (t5 : Tag) (a1 a2 a3 a4 : Int) (a6 : List Int) (a7 a8 a9 a10 : Int) :
    pureBodyLK env (callsL env (tabOf [(50, w50 P50), (78, w78 P78), (80, w80 P80)]) spG (LOs [] LO) [] 40) 83 ((LOs [] LO) R 40 83) [.agg [.int .i64 a1, .int .i64 a2, .int .i64 a3, .int .i64 a4, .ints t5 .i64 a6], .agg [.int .i64 a7, .int .i64 a8, .int .i64 a9, .int .i64 a10]] k =
      f83T (P50 R) (P78 R) (P80 R) a1 a2 a3 a4 a6 a7 a8 a9 a10 (fun y0 y1 => k [.int .i64 y0, .int .i64 y1]) := by kernel_rfl
end Go.Vm.T3
