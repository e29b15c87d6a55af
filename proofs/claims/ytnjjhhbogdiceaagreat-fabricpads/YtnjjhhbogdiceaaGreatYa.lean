/-
  A part of the proof that FabricPads answers true at every input. No condition.
-/
import Derived.NoCompiler
import Derived.Test.YtnjjhhbogdiceaaGreatE3
import Derived.Test.YtnjjhhbogdiceaaGreatV5
set_option linter.unusedVariables false
set_option maxRecDepth 100000
namespace Go.Vm.T3
open Go Go.Vm
abbrev T6 (R : Type) := (Bool → Option R) → Option R
def spG : Sp := sortSp 84
abbrev T72 (R : Type) := Int → List Int → (List Int → Option R) → Option R
abbrev Tf72L3 (R : Type) := Int → List Int → Int → List Int → (Int → Bool → List Int → Option R) → Option R
def f72L3 {R : Type} (x4 : Int) (x5 : List Int) (k0 : Int → Bool → List Int → Option R) (g0 : Int → List Int → Option R) (x6 : Int) (x7 : List Int) : Option R :=
 bif (ltI x6 x4) then
  bif (ltI x6 (lenI x5.length)) then
   gd (inR x6 x5.length) <|
   bif (ltI (remI (List.getD x5 (Int.toNat x6) 0) 8) 2) then
    gd (inR x6 x5.length) <|
    gd (okL (x7 ++ [(convI .i64 (remI (List.getD x5 (Int.toNat x6) 0) 8))]).length) <|
    g0 (addI .i64 x6 1) (x7 ++ [(convI .i64 (remI (List.getD x5 (Int.toNat x6) 0) 8))])
   else
   gd (okL (x7 ++ [2]).length) <|
   g0 (addI .i64 x6 1) (x7 ++ [2])
  else
  gd (okL (x7 ++ [2]).length) <|
  g0 (addI .i64 x6 1) (x7 ++ [2])
 else
 k0 x6 (ltI x6 x4) x7
def f72T {R : Type} (sf72L3 : Tf72L3 R) (a1 : Int) (a3 : List Int) (kr : List Int → Option R) : Option R :=
 sf72L3 a1 a3 0 [] (fun z9 z10 z11 =>
  kr z11)
def f72L3S {R : Type} (M : Nat) (x4 : Int) (x5 : List Int) (x6 : Int) (x7 : List Int) (k0 : Int → Bool → List Int → Option R) : Option R :=
  rounds (fun (g : Int × (List Int) → Option R) (a : Int × (List Int)) => f72L3 x4 x5 k0 (fun y0 y1 => g (y0, y1)) a.1 a.2) M (x6, x7)
def f72 {R : Type} (M : Nat) (a1 : Int) (a3 : List Int) (kr : List Int → Option R) : Option R :=
  f72T (f72L3S M) a1 a3 kr
abbrev T80 (R : Type) := Int → Int → Int → Int → List Int → (Int → Option R) → Option R
def f80T {R : Type} (a1 a2 a3 a4 : Int) (a6 : List Int) (kr : Int → Option R) : Option R :=
 kr (addI .i64 6 (mulI .i64 2 a3))
def f80 {R : Type} (M : Nat) (a1 a2 a3 a4 : Int) (a6 : List Int) (kr : Int → Option R) : Option R :=
  f80T a1 a2 a3 a4 a6 kr
abbrev T78 (R : Type) := Int → Int → Int → Int → List Int → (Int → Option R) → Option R
def f78T {R : Type} (p80 : T80 R) (a1 a2 a3 a4 : Int) (a6 : List Int) (kr : Int → Option R) : Option R :=
 p80 a1 a2 a3 a4 a6 (fun y7 =>
  kr (mulI .i64 (mulI .i64 a1 a2) y7))
def f78 {R : Type} (M : Nat) (a1 a2 a3 a4 : Int) (a6 : List Int) (kr : Int → Option R) : Option R :=
  f78T (f80 M) a1 a2 a3 a4 a6 kr
abbrev T79 (R : Type) := Int → Int → Int → Int → List Int → (Int → Option R) → Option R
def f79T {R : Type} (p78 : T78 R) (a1 a2 a3 a4 : Int) (a6 : List Int) (kr : Int → Option R) : Option R :=
 p78 a1 a2 a3 a4 a6 (fun y7 =>
  kr (addI .i64 y7 (mulI .i64 2 a4)))
def f79 {R : Type} (M : Nat) (a1 a2 a3 a4 : Int) (a6 : List Int) (kr : Int → Option R) : Option R :=
  f79T (f78 M) a1 a2 a3 a4 a6 kr
abbrev T49 (R : Type) := Int → Int → Int → Int → List Int → (Int → Option R) → Option R
def f49T {R : Type} (a1 a2 a3 a4 : Int) (a6 : List Int) (kr : Int → Option R) : Option R :=
 kr (addI .i64 6 (mulI .i64 2 a3))
def f49 {R : Type} (M : Nat) (a1 a2 a3 a4 : Int) (a6 : List Int) (kr : Int → Option R) : Option R :=
  f49T a1 a2 a3 a4 a6 kr
abbrev T41 (R : Type) := Int → Int → Int → Int → List Int → (Int → Option R) → Option R
def f41T {R : Type} (p49 : T49 R) (a1 a2 a3 a4 : Int) (a6 : List Int) (kr : Int → Option R) : Option R :=
 p49 a1 a2 a3 a4 a6 (fun y7 =>
  kr (addI .i64 (mulI .i64 (mulI .i64 a1 a2) y7) (mulI .i64 2 a4)))
def f41 {R : Type} (M : Nat) (a1 a2 a3 a4 : Int) (a6 : List Int) (kr : Int → Option R) : Option R :=
  f41T (f49 M) a1 a2 a3 a4 a6 kr
abbrev T39 (R : Type) := Int → Int → Int → Int → List Int → (Int → Int → Int → Int → List Int → Option R) → Option R
def f39T {R : Type} (p72 : T72 R) (a1 a2 a3 a4 : Int) (a6 : List Int) (kr : Int → Int → Int → Int → List Int → Option R) : Option R :=
 p72 (mulI .i64 (addI .i64 2 (convI .i64 (remI a1 4))) (addI .i64 2 (convI .i64 (remI a2 4)))) a6 (fun y7 =>
  kr (addI .i64 2 (convI .i64 (remI a1 4))) (addI .i64 2 (convI .i64 (remI a2 4))) (addI .i64 2 (convI .i64 (remI a3 3))) 24 y7)
def f39 {R : Type} (M : Nat) (a1 a2 a3 a4 : Int) (a6 : List Int) (kr : Int → Int → Int → Int → List Int → Option R) : Option R :=
  f39T (f72 M) a1 a2 a3 a4 a6 kr
abbrev T44 (R : Type) := List Int → Int → (Int → Option R) → Option R
abbrev Tf44L2 (R : Type) := List Int → Int → Int → (Int → Int → Bool → Bool → Option R) → (Int → Bool → Option R) → Option R
def f44L2 {R : Type} (x4 : List Int) (x5 : Int) (k0 : Int → Int → Bool → Bool → Option R) (k1 : Int → Bool → Option R) (g0 : Int → Option R) (x6 : Int) : Option R :=
 bif (ltI x6 (lenI x4.length)) then
  gd (inR x6 x4.length) <|
  bif (eqI (List.getD x4 (Int.toNat x6) 0) x5) then
   k0 x6 x6 (ltI x6 (lenI x4.length)) (eqI (List.getD x4 (Int.toNat x6) 0) x5)
  else
  g0 (addI .i64 x6 1)
 else
 k1 x6 (ltI x6 (lenI x4.length))
def f44T {R : Type} (sf44L2 : Tf44L2 R) (a2 : List Int) (a3 : Int) (kr : Int → Option R) : Option R :=
 sf44L2 a2 a3 0 (fun z8 z9 z10 z11 =>
  kr z8) (fun z12 z13 =>
  kr (-1))
def f44L2S {R : Type} (M : Nat) (x4 : List Int) (x5 x6 : Int) (k0 : Int → Int → Bool → Bool → Option R) (k1 : Int → Bool → Option R) : Option R :=
  rounds (fun (g : Int → Option R) (a : Int) => f44L2 x4 x5 k0 k1 (fun y0 => g y0) a) M x6
def f44 {R : Type} (M : Nat) (a2 : List Int) (a3 : Int) (kr : Int → Option R) : Option R :=
  f44T (f44L2S M) a2 a3 kr
abbrev T12 (R : Type) := Int → List Int → (List Bool → Option R) → Option R
abbrev Tf12L3 (R : Type) := Int → List Int → Int → List Bool → (Int → Bool → List Bool → Option R) → Option R
def f12L3 {R : Type} (x4 : Int) (x5 : List Int) (k0 : Int → Bool → List Bool → Option R) (g0 : Int → List Bool → Option R) (x6 : Int) (x7 : List Bool) : Option R :=
 bif (ltI x6 x4) then
  bif (ltI x6 (lenI x5.length)) then
   gd (inR x6 x5.length) <|
   gd (okL (x7 ++ [(eqI (remI (List.getD x5 (Int.toNat x6) 0) 2) 1)]).length) <|
   g0 (addI .i64 x6 1) (x7 ++ [(eqI (remI (List.getD x5 (Int.toNat x6) 0) 2) 1)])
  else
  gd (okL (x7 ++ [false]).length) <|
  g0 (addI .i64 x6 1) (x7 ++ [false])
 else
 k0 x6 (ltI x6 x4) x7
def f12T {R : Type} (sf12L3 : Tf12L3 R) (a1 : Int) (a3 : List Int) (kr : List Bool → Option R) : Option R :=
 sf12L3 a1 a3 0 [] (fun z9 z10 z11 =>
  kr z11)
def f12L3S {R : Type} (M : Nat) (x4 : Int) (x5 : List Int) (x6 : Int) (x7 : List Bool) (k0 : Int → Bool → List Bool → Option R) : Option R :=
  rounds (fun (g : Int × (List Bool) → Option R) (a : Int × (List Bool)) => f12L3 x4 x5 k0 (fun y0 y1 => g (y0, y1)) a.1 a.2) M (x6, x7)
def f12 {R : Type} (M : Nat) (a1 : Int) (a3 : List Int) (kr : List Bool → Option R) : Option R :=
  f12T (f12L3S M) a1 a3 kr
abbrev T14 (R : Type) := List Bool → List Bool → (Bool → Option R) → Option R
abbrev Tf14L4 (R : Type) := List Bool → List Bool → Int → (Bool → Int → Bool → Bool → Option R) → (Int → Bool → Option R) → Option R
def f14L4 {R : Type} (x5 x6 : List Bool) (k0 : Bool → Int → Bool → Bool → Option R) (k1 : Int → Bool → Option R) (g0 : Int → Option R) (x7 : Int) : Option R :=
 bif (ltI x7 (lenI x5.length)) then
  gd (inR x7 x5.length) <|
  gd (inR x7 x6.length) <|
  bif (neB (List.getD x5 (Int.toNat x7) false) (List.getD x6 (Int.toNat x7) false)) then
   k0 false x7 (ltI x7 (lenI x5.length)) (neB (List.getD x5 (Int.toNat x7) false) (List.getD x6 (Int.toNat x7) false))
  else
  g0 (addI .i64 x7 1)
 else
 k1 x7 (ltI x7 (lenI x5.length))
def f14T {R : Type} (sf14L4 : Tf14L4 R) (a2 a4 : List Bool) (kr : Bool → Option R) : Option R :=
 bif (neI (lenI a2.length) (lenI a4.length)) then
  kr false
 else
 sf14L4 a2 a4 0 (fun z10 z11 z12 z13 =>
  kr z10) (fun z14 z15 =>
  kr true)
def f14L4S {R : Type} (M : Nat) (x5 x6 : List Bool) (x7 : Int) (k0 : Bool → Int → Bool → Bool → Option R) (k1 : Int → Bool → Option R) : Option R :=
  rounds (fun (g : Int → Option R) (a : Int) => f14L4 x5 x6 k0 k1 (fun y0 => g y0) a) M x7
def f14 {R : Type} (M : Nat) (a2 a4 : List Bool) (kr : Bool → Option R) : Option R :=
  f14T (f14L4S M) a2 a4 kr
abbrev T90 (R : Type) := Int → Int → Int → Int → List Int → Int → Int → Int → Int → Int → Int → (Bool → Option R) → Option R
def f90T {R : Type} (a1 a2 a3 a4 : Int) (a6 : List Int) (a7 a8 a9 a10 a11 a12 : Int) (kr : Bool → Option R) : Option R :=
 bif (ltI a11 0) then
  kr false
 else
 bif (leI a1 a11) then
  kr false
 else
 bif (ltI a12 0) then
  kr false
 else
 bif (leI a2 a12) then
  kr false
 else
 bif (eqI a7 4) then
  bif (eqI a8 a11) then
   bif (eqI a9 a12) then
    kr true
   else
   bif (eqI a7 4) then
    bif (eqI (addI .i64 a8 1) a11) then
     bif (eqI a9 a12) then
      kr true
     else
     bif (eqI a7 5) then
      bif (eqI a8 a11) then
       kr (eqI (addI .i64 a9 1) a12)
      else
      kr false
     else
     kr false
    else
    bif (eqI a7 5) then
     bif (eqI a8 a11) then
      kr (eqI (addI .i64 a9 1) a12)
     else
     kr false
    else
    kr false
   else
   bif (eqI a7 5) then
    bif (eqI a8 a11) then
     kr (eqI (addI .i64 a9 1) a12)
    else
    kr false
   else
   kr false
  else
  bif (eqI a7 4) then
   bif (eqI (addI .i64 a8 1) a11) then
    bif (eqI a9 a12) then
     kr true
    else
    bif (eqI a7 5) then
     bif (eqI a8 a11) then
      kr (eqI (addI .i64 a9 1) a12)
     else
     kr false
    else
    kr false
   else
   bif (eqI a7 5) then
    bif (eqI a8 a11) then
     kr (eqI (addI .i64 a9 1) a12)
    else
    kr false
   else
   kr false
  else
  bif (eqI a7 5) then
   bif (eqI a8 a11) then
    kr (eqI (addI .i64 a9 1) a12)
   else
   kr false
  else
  kr false
 else
 bif (eqI a7 5) then
  bif (eqI a8 a11) then
   bif (eqI a9 a12) then
    kr true
   else
   bif (eqI a7 4) then
    bif (eqI (addI .i64 a8 1) a11) then
     bif (eqI a9 a12) then
      kr true
     else
     bif (eqI a7 5) then
      bif (eqI a8 a11) then
       kr (eqI (addI .i64 a9 1) a12)
      else
      kr false
     else
     kr false
    else
    bif (eqI a7 5) then
     bif (eqI a8 a11) then
      kr (eqI (addI .i64 a9 1) a12)
     else
     kr false
    else
    kr false
   else
   bif (eqI a7 5) then
    bif (eqI a8 a11) then
     kr (eqI (addI .i64 a9 1) a12)
    else
    kr false
   else
   kr false
  else
  bif (eqI a7 4) then
   bif (eqI (addI .i64 a8 1) a11) then
    bif (eqI a9 a12) then
     kr true
    else
    bif (eqI a7 5) then
     bif (eqI a8 a11) then
      kr (eqI (addI .i64 a9 1) a12)
     else
     kr false
    else
    kr false
   else
   bif (eqI a7 5) then
    bif (eqI a8 a11) then
     kr (eqI (addI .i64 a9 1) a12)
    else
    kr false
   else
   kr false
  else
  bif (eqI a7 5) then
   bif (eqI a8 a11) then
    kr (eqI (addI .i64 a9 1) a12)
   else
   kr false
  else
  kr false
 else
 bif (eqI a7 4) then
  bif (eqI (addI .i64 a8 1) a11) then
   bif (eqI a9 a12) then
    kr true
   else
   bif (eqI a7 5) then
    bif (eqI a8 a11) then
     kr (eqI (addI .i64 a9 1) a12)
    else
    kr false
   else
   kr false
  else
  bif (eqI a7 5) then
   bif (eqI a8 a11) then
    kr (eqI (addI .i64 a9 1) a12)
   else
   kr false
  else
  kr false
 else
 bif (eqI a7 5) then
  bif (eqI a8 a11) then
   kr (eqI (addI .i64 a9 1) a12)
  else
  kr false
 else
 kr false
def f90 {R : Type} (M : Nat) (a1 a2 a3 a4 : Int) (a6 : List Int) (a7 a8 a9 a10 a11 a12 : Int) (kr : Bool → Option R) : Option R :=
  f90T a1 a2 a3 a4 a6 a7 a8 a9 a10 a11 a12 kr
abbrev T91 (R : Type) := Int → Int → Int → Int → (Bool → Option R) → Option R
def f91T {R : Type} (a1 a2 a3 a4 : Int) (kr : Bool → Option R) : Option R :=
 bif (eqI a1 4) then
  kr true
 else
 kr (eqI a1 5)
def f91 {R : Type} (M : Nat) (a1 a2 a3 a4 : Int) (kr : Bool → Option R) : Option R :=
  f91T a1 a2 a3 a4 kr
abbrev T92 (R : Type) := Int → Int → Int → Int → List Int → Int → Int → Int → Int → Int → Int → Int → Int → (Bool → Option R) → Option R
def f92T {R : Type} (p90 : T90 R) (a1 a2 a3 a4 : Int) (a6 : List Int) (a7 a8 a9 a10 a11 a12 a13 a14 : Int) (kr : Bool → Option R) : Option R :=
 p90 a1 a2 a3 a4 a6 a11 a12 a13 a14 a8 a9 (fun y15 =>
  bif y15 then
   kr true
  else
  bif (eqI a7 4) then
   p90 a1 a2 a3 a4 a6 a11 a12 a13 a14 (addI .i64 a8 1) a9 (fun y16 =>
    bif y16 then
     kr true
    else
    bif (eqI a7 5) then
     p90 a1 a2 a3 a4 a6 a11 a12 a13 a14 a8 (addI .i64 a9 1) (fun y17 =>
      kr y17)
    else
    kr false)
  else
  bif (eqI a7 5) then
   p90 a1 a2 a3 a4 a6 a11 a12 a13 a14 a8 (addI .i64 a9 1) (fun y18 =>
    kr y18)
  else
  kr false)
def f92 {R : Type} (M : Nat) (a1 a2 a3 a4 : Int) (a6 : List Int) (a7 a8 a9 a10 a11 a12 a13 a14 : Int) (kr : Bool → Option R) : Option R :=
  f92T (f90 M) a1 a2 a3 a4 a6 a7 a8 a9 a10 a11 a12 a13 a14 kr
abbrev T77 (R : Type) := Int → Int → Int → Int → List Int → Int → Int → Int → Int → Int → Int → Int → Int → (Bool → Option R) → Option R
def f77T {R : Type} (p90 : T90 R) (p91 : T91 R) (p92 : T92 R) (a1 a2 a3 a4 : Int) (a6 : List Int) (a7 a8 a9 a10 a11 a12 a13 a14 : Int) (kr : Bool → Option R) : Option R :=
 bif (eqI a7 1) then
  p90 a1 a2 a3 a4 a6 a11 a12 a13 a14 a8 a9 (fun y15 =>
   bif y15 then
    kr true
   else
   bif (eqI a11 3) then
    bif (eqI a14 3) then
     bif (eqI a12 a8) then
      kr (eqI a13 (addI .i64 a9 1))
     else
     kr false
    else
    kr false
   else
   kr false)
 else
 bif (eqI a7 2) then
  p90 a1 a2 a3 a4 a6 a11 a12 a13 a14 a8 a9 (fun y16 =>
   kr y16)
 else
 bif (eqI a7 6) then
  p90 a1 a2 a3 a4 a6 a11 a12 a13 a14 0 a9 (fun y17 =>
   kr y17)
 else
 bif (eqI a7 4) then
  bif (eqI a7 4) then
   p91 a11 a12 a13 a14 (fun y18 =>
    bif y18 then
     bif (notB ((eqI a7 a11) && ((eqI a8 a12) && ((eqI a9 a13) && ((eqI a10 a14) && true))))) then
      bif (eqI a10 a14) then
       p92 a1 a2 a3 a4 a6 a7 a8 a9 a10 a11 a12 a13 a14 (fun y19 =>
        kr y19)
      else
      kr false
     else
     kr false
    else
    bif (eqI a11 3) then
     p90 a1 a2 a3 a4 a6 a7 a8 a9 a10 a12 a13 (fun y20 =>
      bif y20 then
       kr true
      else
      bif (eqI a11 7) then
       p90 a1 a2 a3 a4 a6 a7 a8 a9 a10 (subI .i64 a1 1) a13 (fun y21 =>
        kr y21)
      else
      kr false)
    else
    bif (eqI a11 7) then
     p90 a1 a2 a3 a4 a6 a7 a8 a9 a10 (subI .i64 a1 1) a13 (fun y22 =>
      kr y22)
    else
    kr false)
  else
  kr false
 else
 bif (eqI a7 5) then
  p91 a11 a12 a13 a14 (fun y23 =>
   bif y23 then
    bif (notB ((eqI a7 a11) && ((eqI a8 a12) && ((eqI a9 a13) && ((eqI a10 a14) && true))))) then
     bif (eqI a10 a14) then
      p92 a1 a2 a3 a4 a6 a7 a8 a9 a10 a11 a12 a13 a14 (fun y24 =>
       kr y24)
     else
     kr false
    else
    kr false
   else
   bif (eqI a11 3) then
    p90 a1 a2 a3 a4 a6 a7 a8 a9 a10 a12 a13 (fun y25 =>
     bif y25 then
      kr true
     else
     bif (eqI a11 7) then
      p90 a1 a2 a3 a4 a6 a7 a8 a9 a10 (subI .i64 a1 1) a13 (fun y26 =>
       kr y26)
     else
     kr false)
   else
   bif (eqI a11 7) then
    p90 a1 a2 a3 a4 a6 a7 a8 a9 a10 (subI .i64 a1 1) a13 (fun y27 =>
     kr y27)
   else
   kr false)
 else
 kr false
def f77 {R : Type} (M : Nat) (a1 a2 a3 a4 : Int) (a6 : List Int) (a7 a8 a9 a10 a11 a12 a13 a14 : Int) (kr : Bool → Option R) : Option R :=
  f77T (f90 M) (f91 M) (f92 M) a1 a2 a3 a4 a6 a7 a8 a9 a10 a11 a12 a13 a14 kr
abbrev T48 (R : Type) := Int → Int → Int → Int → List Int → Int → (Int → Int → Int → Int → Int → Option R) → Option R
def f48T {R : Type} (p41 : T41 R) (p49 : T49 R) (a1 a2 a3 a4 : Int) (a6 : List Int) (a7 : Int) (kr : Int → Int → Int → Int → Int → Option R) : Option R :=
 bif (ltI a7 0) then
  kr 0 0 0 0 1
 else
 p41 a1 a2 a3 a4 a6 (fun y8 =>
  bif (leI y8 a7) then
   kr 0 0 0 0 1
  else
  p49 a1 a2 a3 a4 a6 (fun y9 =>
   bif (leI (addI .i64 (mulI .i64 (mulI .i64 a1 a2) y9) a4) a7) then
    gd (nzI a2) <|
    kr 7 a1 (remI (subI .i64 (subI .i64 a7 (mulI .i64 (mulI .i64 a1 a2) y9)) a4) a2) (subI .i64 (subI .i64 a7 (mulI .i64 (mulI .i64 a1 a2) y9)) a4) 0
   else
   bif (leI (mulI .i64 (mulI .i64 a1 a2) y9) a7) then
    gd (nzI a2) <|
    kr 6 (-1) (remI (subI .i64 a7 (mulI .i64 (mulI .i64 a1 a2) y9)) a2) (subI .i64 a7 (mulI .i64 (mulI .i64 a1 a2) y9)) 0
   else
   p49 a1 a2 a3 a4 a6 (fun y10 =>
    gd (nzI y10) <|
    p49 a1 a2 a3 a4 a6 (fun y11 =>
     gd (nzI y11) <|
     gd (nzI a1) <|
     gd (nzI a1) <|
     bif (eqI (remI a7 y11) 0) then
      kr 1 (remI (quoI .i64 a7 y10) a1) (quoI .i64 (quoI .i64 a7 y10) a1) 0 0
     else
     bif (eqI (remI a7 y11) 1) then
      kr 2 (remI (quoI .i64 a7 y10) a1) (quoI .i64 (quoI .i64 a7 y10) a1) 0 0
     else
     bif (ltI (remI a7 y11) 6) then
      kr 3 (remI (quoI .i64 a7 y10) a1) (quoI .i64 (quoI .i64 a7 y10) a1) (subI .i64 (remI a7 y11) 2) 0
     else
     bif (ltI (remI a7 y11) (addI .i64 6 a3)) then
      kr 4 (remI (quoI .i64 a7 y10) a1) (quoI .i64 (quoI .i64 a7 y10) a1) (subI .i64 (remI a7 y11) 6) 0
     else
     kr 5 (remI (quoI .i64 a7 y10) a1) (quoI .i64 (quoI .i64 a7 y10) a1) (subI .i64 (subI .i64 (remI a7 y11) 6) a3) 0))))
def f48 {R : Type} (M : Nat) (a1 a2 a3 a4 : Int) (a6 : List Int) (a7 : Int) (kr : Int → Int → Int → Int → Int → Option R) : Option R :=
  f48T (f41 M) (f49 M) a1 a2 a3 a4 a6 a7 kr
abbrev T45 (R : Type) := Int → Int → Int → Int → List Int → Int → (List Int → Option R) → Option R
abbrev Tf45L4 (R : Type) := Int → Int → Int → Int → List Int → Int → Int → Int → Int → Int → Int → List Int → (Int → Bool → List Int → Option R) → Option R
def f45L4 {R : Type} (p41 : T41 R) (p48 : T48 R) (p77 : T77 R) (x14 x15 x16 x17 : Int) (x18 : List Int) (x20 x21 x22 x23 x24 : Int) (k0 : Int → Bool → List Int → Option R) (g0 : Int → List Int → Option R) (x13 : Int) (x19 : List Int) : Option R :=
 p41 x14 x15 x16 x17 x18 (fun y26 =>
  bif (ltI x13 y26) then
   bif (eqI x24 0) then
    p48 x14 x15 x16 x17 x18 x13 (fun y27 y28 y29 y30 y31 =>
     p77 x14 x15 x16 x17 x18 y27 y28 y29 y30 x20 x21 x22 x23 (fun y32 =>
      bif y32 then
       gd (okL (x19 ++ [x13]).length) <|
       g0 (addI .i64 x13 1) (x19 ++ [x13])
      else
      g0 (addI .i64 x13 1) x19))
   else
   k0 x13 (eqI x24 0) x19
  else
  k0 x13 false x19)
def f45T {R : Type} (p48 : T48 R) (sf45L4 : Tf45L4 R) (a1 a2 a3 a4 : Int) (a6 : List Int) (a7 : Int) (kr : List Int → Option R) : Option R :=
 p48 a1 a2 a3 a4 a6 a7 (fun y8 y9 y10 y11 y12 =>
  sf45L4 a1 a2 a3 a4 a6 y8 y9 y10 y11 y12 0 [] (fun z33 z34 z35 =>
   kr z35))
def f45L4S {R : Type} (M : Nat) (x14 x15 x16 x17 : Int) (x18 : List Int) (x20 x21 x22 x23 x24 x13 : Int) (x19 : List Int) (k0 : Int → Bool → List Int → Option R) : Option R :=
  rounds (fun (g : Int × (List Int) → Option R) (a : Int × (List Int)) => f45L4 (f41 M) (f48 M) (f77 M) x14 x15 x16 x17 x18 x20 x21 x22 x23 x24 k0 (fun y0 y1 => g (y0, y1)) a.1 a.2) M (x13, x19)
def f45 {R : Type} (M : Nat) (a1 a2 a3 a4 : Int) (a6 : List Int) (a7 : Int) (kr : List Int → Option R) : Option R :=
  f45T (f48 M) (f45L4S M) a1 a2 a3 a4 a6 a7 kr
abbrev T46 (R : Type) := Int → Int → Int → Int → List Int → Int → (Int → Option R) → Option R
def f46T {R : Type} (p45 : T45 R) (a1 a2 a3 a4 : Int) (a6 : List Int) (a7 : Int) (kr : Int → Option R) : Option R :=
 p45 a1 a2 a3 a4 a6 a7 (fun y8 =>
  kr (lenI y8.length))
def f46 {R : Type} (M : Nat) (a1 a2 a3 a4 : Int) (a6 : List Int) (a7 : Int) (kr : Int → Option R) : Option R :=
  f46T (f45 M) a1 a2 a3 a4 a6 a7 kr
def f35T {R : Type} (a1 a2 a3 : Int) (kr : Bool → Option R) : Option R :=
 bif (leI a2 a1) then
  kr (leI a1 a3)
 else
 kr false
def f35 {R : Type} (M : Nat) (a1 a2 a3 : Int) (kr : Bool → Option R) : Option R :=
  f35T a1 a2 a3 kr
abbrev T81 (R : Type) := Int → List Bool → (Bool → Option R) → Option R
abbrev Tf81L5 (R : Type) := Int → List Bool → Int → Int → Int → (Int → Int → Bool → Option R) → Option R
def f81L5 {R : Type} (x4 : Int) (x6 : List Bool) (x7 : Int) (k0 : Int → Int → Bool → Option R) (g0 : Int → Int → Option R) (x5 x8 : Int) : Option R :=
 bif (ltI x8 x7) then
  gd (inR x8 x6.length) <|
  bif (List.getD x6 (Int.toNat x8) false) then
   gd (posI x8) <|
   g0 (orI .i64 x5 (shlI .i64 1 x8)) (addI .i64 x8 1)
  else
  g0 x5 (addI .i64 x8 1)
 else
 k0 x5 x8 (ltI x8 x7)
def f81T {R : Type} (sf81L5 : Tf81L5 R) (a1 : Int) (a3 : List Bool) (kr : Bool → Option R) : Option R :=
 bif (ltI 5 (lenI a3.length)) then
  kr false
 else
 sf81L5 a1 a3 (lenI a3.length) 0 0 (fun z10 z11 z12 =>
  gd (posI z10) <|
  kr (eqI (andI .i64 (shrI .i64 a1 z10) 1) 1))
def f81L5S {R : Type} (M : Nat) (x4 : Int) (x6 : List Bool) (x7 x5 x8 : Int) (k0 : Int → Int → Bool → Option R) : Option R :=
  rounds (fun (g : Int × Int → Option R) (a : Int × Int) => f81L5 x4 x6 x7 k0 (fun y0 y1 => g (y0, y1)) a.1 a.2) M (x5, x8)
def f81 {R : Type} (M : Nat) (a1 : Int) (a3 : List Bool) (kr : Bool → Option R) : Option R :=
  f81T (f81L5S M) a1 a3 kr
abbrev T73 (R : Type) := Int → Int → Int → Int → List Int → List Int → Int → Int → Int → Int → Int → (Bool → Option R) → Option R
def f73T {R : Type} (a1 a2 a3 a4 : Int) (a6 a8 : List Int) (a9 a10 a11 a12 a13 : Int) (kr : Bool → Option R) : Option R :=
 bif (ltI a13 0) then
  kr false
 else
 bif (leI (mulI .i64 a1 a2) a13) then
  kr false
 else
 gd (inR a13 a6.length) <|
 bif (eqI (List.getD a6 (Int.toNat a13) 0) 0) then
  kr false
 else
 gd (inR a13 a6.length) <|
 bif (eqI (List.getD a6 (Int.toNat a13) 0) 1) then
  bif (neI a10 (-1)) then
   kr false
  else
  bif (leI 0 a9) then
   bif (leI a9 65535) then
    bif (leI (-1) a10) then
     bif (leI a10 255) then
      bif (leI (-1) a11) then
       bif (leI a11 255) then
        bif (eqI a10 (-1)) then
         kr true
        else
        kr (eqI a11 (-1))
       else
       kr false
      else
      kr false
     else
     kr false
    else
    kr false
   else
   kr false
  else
  kr false
 else
 bif (leI 0 a9) then
  bif (leI a9 65535) then
   bif (leI (-1) a10) then
    bif (leI a10 255) then
     bif (leI (-1) a11) then
      bif (leI a11 255) then
       bif (eqI a10 (-1)) then
        kr true
       else
       kr (eqI a11 (-1))
      else
      kr false
     else
     kr false
    else
    kr false
   else
   kr false
  else
  kr false
 else
 kr false
def f73 {R : Type} (M : Nat) (a1 a2 a3 a4 : Int) (a6 a8 : List Int) (a9 a10 a11 a12 a13 : Int) (kr : Bool → Option R) : Option R :=
  f73T a1 a2 a3 a4 a6 a8 a9 a10 a11 a12 a13 kr
abbrev T74 (R : Type) := Int → Int → Int → Int → List Int → (List Int → Option R) → Option R
abbrev Tf74L3 (R : Type) := Int → Int → Int → Int → List Int → Int → List Int → (Int → Bool → List Int → Option R) → Option R
def f74L3 {R : Type} (p41 : T41 R) (p48 : T48 R) (x8 x9 x10 x11 : Int) (x12 : List Int) (k0 : Int → Bool → List Int → Option R) (g0 : Int → List Int → Option R) (x7 : Int) (x13 : List Int) : Option R :=
 p41 x8 x9 x10 x11 x12 (fun y15 =>
  bif (ltI x7 y15) then
   p48 x8 x9 x10 x11 x12 x7 (fun y16 y17 y18 y19 y20 =>
    bif (eqI y16 1) then
     gd (okL (x13 ++ [x7]).length) <|
     g0 (addI .i64 x7 1) (x13 ++ [x7])
    else
    bif (eqI y16 2) then
     gd (okL (x13 ++ [x7]).length) <|
     g0 (addI .i64 x7 1) (x13 ++ [x7])
    else
    bif (eqI y16 6) then
     gd (okL (x13 ++ [x7]).length) <|
     g0 (addI .i64 x7 1) (x13 ++ [x7])
    else
    g0 (addI .i64 x7 1) x13)
  else
  k0 x7 (ltI x7 y15) x13)
def f74T {R : Type} (sf74L3 : Tf74L3 R) (a1 a2 a3 a4 : Int) (a6 : List Int) (kr : List Int → Option R) : Option R :=
 sf74L3 a1 a2 a3 a4 a6 0 [] (fun z21 z22 z23 =>
  kr z23)
def f74L3S {R : Type} (M : Nat) (x8 x9 x10 x11 : Int) (x12 : List Int) (x7 : Int) (x13 : List Int) (k0 : Int → Bool → List Int → Option R) : Option R :=
  rounds (fun (g : Int × (List Int) → Option R) (a : Int × (List Int)) => f74L3 (f41 M) (f48 M) x8 x9 x10 x11 x12 k0 (fun y0 y1 => g (y0, y1)) a.1 a.2) M (x7, x13)
def f74 {R : Type} (M : Nat) (a1 a2 a3 a4 : Int) (a6 : List Int) (kr : List Int → Option R) : Option R :=
  f74T (f74L3S M) a1 a2 a3 a4 a6 kr
abbrev T75 (R : Type) := Int → Int → Int → Int → List Int → Int → (List Int → Option R) → Option R
abbrev Tf75L4 (R : Type) := Int → Int → Int → Int → List Int → Int → Int → Int → Int → Int → Int → List Int → (Int → Bool → List Int → Option R) → Option R
def f75L4 {R : Type} (p41 : T41 R) (p48 : T48 R) (p77 : T77 R) (x14 x15 x16 x17 : Int) (x18 : List Int) (x20 x21 x22 x23 x24 : Int) (k0 : Int → Bool → List Int → Option R) (g0 : Int → List Int → Option R) (x13 : Int) (x19 : List Int) : Option R :=
 p41 x14 x15 x16 x17 x18 (fun y26 =>
  bif (ltI x13 y26) then
   bif (eqI x24 0) then
    p48 x14 x15 x16 x17 x18 x13 (fun y27 y28 y29 y30 y31 =>
     p77 x14 x15 x16 x17 x18 x20 x21 x22 x23 y27 y28 y29 y30 (fun y32 =>
      bif y32 then
       gd (okL (x19 ++ [x13]).length) <|
       g0 (addI .i64 x13 1) (x19 ++ [x13])
      else
      g0 (addI .i64 x13 1) x19))
   else
   k0 x13 (eqI x24 0) x19
  else
  k0 x13 false x19)
def f75T {R : Type} (p48 : T48 R) (sf75L4 : Tf75L4 R) (a1 a2 a3 a4 : Int) (a6 : List Int) (a7 : Int) (kr : List Int → Option R) : Option R :=
 p48 a1 a2 a3 a4 a6 a7 (fun y8 y9 y10 y11 y12 =>
  sf75L4 a1 a2 a3 a4 a6 y8 y9 y10 y11 y12 0 [] (fun z33 z34 z35 =>
   kr z35))
def f75L4S {R : Type} (M : Nat) (x14 x15 x16 x17 : Int) (x18 : List Int) (x20 x21 x22 x23 x24 x13 : Int) (x19 : List Int) (k0 : Int → Bool → List Int → Option R) : Option R :=
  rounds (fun (g : Int × (List Int) → Option R) (a : Int × (List Int)) => f75L4 (f41 M) (f48 M) (f77 M) x14 x15 x16 x17 x18 x20 x21 x22 x23 x24 k0 (fun y0 y1 => g (y0, y1)) a.1 a.2) M (x13, x19)
def f75 {R : Type} (M : Nat) (a1 a2 a3 a4 : Int) (a6 : List Int) (a7 : Int) (kr : List Int → Option R) : Option R :=
  f75T (f48 M) (f75L4S M) a1 a2 a3 a4 a6 a7 kr
abbrev T76 (R : Type) := Int → Int → Int → Int → List Int → Int → List Int → List Int → (Bool → Option R) → Option R
abbrev Tf76L7 (R : Type) := Int → Int → Int → Int → List Int → Int → List Int → List Int → Int → (Bool → Int → Bool → Bool → Option R) → (Bool → Int → Bool → Bool → List Int → Option R) → (Int → Bool → Option R) → Option R
def f76L7 {R : Type} (p44 : T44 R) (p45 : T45 R) (x19 x20 x21 x22 : Int) (x23 : List Int) (x24 : Int) (x25 x26 : List Int) (k0 : Bool → Int → Bool → Bool → Option R) (k1 : Bool → Int → Bool → Bool → List Int → Option R) (k2 : Int → Bool → Option R) (g0 : Int → Option R) (x18 : Int) : Option R :=
 bif (ltI x18 (lenI x25.length)) then
  gd (inR x18 x26.length) <|
  bif (ltI (List.getD x26 (Int.toNat x18) 0) 0) then
   k0 false x18 (ltI x18 (lenI x25.length)) true
  else
  gd (inR x18 x26.length) <|
  bif (leI x18 (List.getD x26 (Int.toNat x18) 0)) then
   k0 false x18 (ltI x18 (lenI x25.length)) true
  else
  gd (inR x18 x25.length) <|
  p45 x19 x20 x21 x22 x23 (List.getD x25 (Int.toNat x18) 0) (fun y30 =>
   gd (inR x18 x26.length) <|
   gd (inR (List.getD x26 (Int.toNat x18) 0) x25.length) <|
   p44 y30 (List.getD x25 (Int.toNat (List.getD x26 (Int.toNat x18) 0)) 0) (fun y31 =>
    bif (ltI y31 0) then
     k1 false x18 (ltI x18 (lenI x25.length)) (ltI y31 0) y30
    else
    g0 (addI .i64 x18 1)))
 else
 k2 x18 (ltI x18 (lenI x25.length))
def f76T {R : Type} (p46 : T46 R) (p48 : T48 R) (sf76L7 : Tf76L7 R) (a1 a2 a3 a4 : Int) (a6 : List Int) (a7 : Int) (a9 a11 : List Int) (kr : Bool → Option R) : Option R :=
 bif (eqI (lenI a9.length) 0) then
  kr false
 else
 bif (neI (lenI a11.length) (lenI a9.length)) then
  kr false
 else
 gd (inR 0 a11.length) <|
 bif (neI (List.getD a11 0 0) (-1)) then
  kr false
 else
 gd (inR 0 a9.length) <|
 p48 a1 a2 a3 a4 a6 (List.getD a9 0 0) (fun y12 y13 y14 y15 y16 =>
  bif (neI y16 0) then
   kr false
  else
  gd (inR 0 a9.length) <|
  p46 a1 a2 a3 a4 a6 (List.getD a9 0 0) (fun y17 =>
   bif (ltI 0 y17) then
    kr false
   else
   sf76L7 a1 a2 a3 a4 a6 a7 a9 a11 1 (fun z32 z33 z34 z35 =>
    kr z32) (fun z36 z37 z38 z39 z40 =>
    kr z36) (fun z41 z42 =>
    kr true)))
def f76L7S {R : Type} (M : Nat) (x19 x20 x21 x22 : Int) (x23 : List Int) (x24 : Int) (x25 x26 : List Int) (x18 : Int) (k0 : Bool → Int → Bool → Bool → Option R) (k1 : Bool → Int → Bool → Bool → List Int → Option R) (k2 : Int → Bool → Option R) : Option R :=
  rounds (fun (g : Int → Option R) (a : Int) => f76L7 (f44 M) (f45 M) x19 x20 x21 x22 x23 x24 x25 x26 k0 k1 k2 (fun y0 => g y0) a) M x18
def f76 {R : Type} (M : Nat) (a1 a2 a3 a4 : Int) (a6 : List Int) (a7 : Int) (a9 a11 : List Int) (kr : Bool → Option R) : Option R :=
  f76T (f46 M) (f48 M) (f76L7S M) a1 a2 a3 a4 a6 a7 a9 a11 kr
abbrev T43 (R : Type) := List V → List V → List V → List Int → Int → Int → Int → Int → List Int → List Int → List V → (Bool → Option R) → Option R
abbrev Tf43L4 (R : Type) := List V → List V → List V → List Int → Int → Int → Int → Int → List Int → List Int → List V → Int → (Bool → Int → Bool → Bool → Option R) → (Int → Bool → Option R) → Option R
def f43L4 {R : Type} (p44 : T44 R) (p73 : T73 R) (x20 x21 x22 : List V) (x23 : List Int) (x24 x25 x26 x27 : Int) (x28 x29 : List Int) (x30 : List V) (k0 : Bool → Int → Bool → Bool → Option R) (k1 : Int → Bool → Option R) (g0 : Int → Option R) (x19 : Int) : Option R :=
 bif (ltI x19 (lenI x29.length)) then
  gd (inR x19 x21.length) <|
  gd (inR x19 x29.length) <|
  p73 x24 x25 x26 x27 x28 (V.toInts (V.cell (List.getD x21 (Int.toNat x19) .undef) 0)) (V.toInt (V.cell (List.getD x21 (Int.toNat x19) .undef) 1)) (V.toInt (V.cell (List.getD x21 (Int.toNat x19) .undef) 2)) (V.toInt (V.cell (List.getD x21 (Int.toNat x19) .undef) 3)) (V.toInt (V.cell (List.getD x21 (Int.toNat x19) .undef) 4)) (List.getD x29 (Int.toNat x19) 0) (fun y38 =>
   bif (notB y38) then
    k0 false x19 (ltI x19 (lenI x29.length)) true
   else
   gd (inS 0 x19 x29.length) <|
   gd (inR x19 x29.length) <|
   p44 (List.take (Int.toNat x19) x29) (List.getD x29 (Int.toNat x19) 0) (fun y39 =>
    bif (leI 0 y39) then
     k0 false x19 (ltI x19 (lenI x29.length)) (leI 0 y39)
    else
    g0 (addI .i64 x19 1)))
 else
 k1 x19 (ltI x19 (lenI x29.length))
abbrev Tf43L15 (R : Type) := Int → Int → Int → Int → Int → List Int → List Int → List V → Int → List Bool → (Bool → Int → Bool → Bool → List Bool → Option R) → (Int → Bool → List Bool → Option R) → Option R
def f43L15 {R : Type} (x60 x62 x63 x64 x65 : Int) (x66 x67 : List Int) (x68 : List V) (k0 : Bool → Int → Bool → Bool → List Bool → Option R) (k1 : Int → Bool → List Bool → Option R) (g0 : Int → List Bool → Option R) (x61 : Int) (x69 : List Bool) : Option R :=
 gd (inR x60 x68.length) <|
 bif (ltI x61 (lenI (V.toInts (V.cell (List.getD x68 (Int.toNat x60) .undef) 1)).length)) then
  gd (inR x60 x68.length) <|
  gd (inR x61 (V.toInts (V.cell (List.getD x68 (Int.toNat x60) .undef) 1)).length) <|
  gd (inR (List.getD (V.toInts (V.cell (List.getD x68 (Int.toNat x60) .undef) 1)) (Int.toNat x61) 0) x69.length) <|
  bif (List.getD x69 (Int.toNat (List.getD (V.toInts (V.cell (List.getD x68 (Int.toNat x60) .undef) 1)) (Int.toNat x61) 0)) false) then
   k0 false x61 (ltI x61 (lenI (V.toInts (V.cell (List.getD x68 (Int.toNat x60) .undef) 1)).length)) (List.getD x69 (Int.toNat (List.getD (V.toInts (V.cell (List.getD x68 (Int.toNat x60) .undef) 1)) (Int.toNat x61) 0)) false) x69
  else
  gd (inR x60 x68.length) <|
  gd (inR x61 (V.toInts (V.cell (List.getD x68 (Int.toNat x60) .undef) 1)).length) <|
  gd (inR (List.getD (V.toInts (V.cell (List.getD x68 (Int.toNat x60) .undef) 1)) (Int.toNat x61) 0) x69.length) <|
  g0 (addI .i64 x61 1) (List.set x69 (Int.toNat (List.getD (V.toInts (V.cell (List.getD x68 (Int.toNat x60) .undef) 1)) (Int.toNat x61) 0)) true)
 else
 k1 x61 (ltI x61 (lenI (V.toInts (V.cell (List.getD x68 (Int.toNat x60) .undef) 1)).length)) x69
abbrev Tf43L10 (R : Type) := Int → Int → Int → Int → List Int → List Int → List V → Int → List Bool → (Bool → Int → Bool → Bool → List Bool → Option R) → (Bool → Int → Int → Bool → Bool → List Bool → Option R) → (Int → Bool → List Bool → Option R) → Option R
def f43L10 {R : Type} (p76 : T76 R) (sf43L15 : Tf43L15 R) (x48 x49 x50 x51 : Int) (x52 x53 : List Int) (x54 : List V) (k0 : Bool → Int → Bool → Bool → List Bool → Option R) (k1 : Bool → Int → Int → Bool → Bool → List Bool → Option R) (k2 : Int → Bool → List Bool → Option R) (g0 : Int → List Bool → Option R) (x47 : Int) (x55 : List Bool) : Option R :=
 bif (ltI x47 (lenI x54.length)) then
  gd (inR x47 x54.length) <|
  p76 x48 x49 x50 x51 x52 (V.toInt (V.cell (List.getD x54 (Int.toNat x47) .undef) 0)) (V.toInts (V.cell (List.getD x54 (Int.toNat x47) .undef) 1)) (V.toInts (V.cell (List.getD x54 (Int.toNat x47) .undef) 2)) (fun y59 =>
   bif (notB y59) then
    k0 false x47 (ltI x47 (lenI x54.length)) (notB y59) x55
   else
   sf43L15 x47 x48 x49 x50 x51 x52 x53 x54 0 x55 (fun z73 z74 z75 z76 z77 =>
    k1 z73 x47 z74 z75 z76 z77) (fun z78 z79 z80 =>
    g0 (addI .i64 x47 1) z80))
 else
 k2 x47 (ltI x47 (lenI x54.length)) x55
def f43T {R : Type} (p41 : T41 R) (sf43L4 : Tf43L4 R) (sf43L10 : Tf43L10 R) (a2 a4 a6 : List V) (a8 : List Int) (a9 a10 a11 a12 : Int) (a14 a16 : List Int) (a18 : List V) (kr : Bool → Option R) : Option R :=
 bif (neI (lenI a16.length) (lenI a4.length)) then
  kr false
 else
 sf43L4 a2 a4 a6 a8 a9 a10 a11 a12 a14 a16 a18 0 (fun z40 z41 z42 z43 =>
  kr z40) (fun z44 z45 =>
  p41 a9 a10 a11 a12 a14 (fun y46 =>
   gd (inS 0 y46 lim) <|
   sf43L10 a9 a10 a11 a12 a14 a16 a18 0 (List.replicate (Int.toNat y46) false) (fun z81 z82 z83 z84 z85 =>
    kr z81) (fun z86 z87 z88 z89 z90 z91 =>
    kr z86) (fun z92 z93 z94 =>
    kr true)))
def f43L4S {R : Type} (M : Nat) (x20 x21 x22 : List V) (x23 : List Int) (x24 x25 x26 x27 : Int) (x28 x29 : List Int) (x30 : List V) (x19 : Int) (k0 : Bool → Int → Bool → Bool → Option R) (k1 : Int → Bool → Option R) : Option R :=
  rounds (fun (g : Int → Option R) (a : Int) => f43L4 (f44 M) (f73 M) x20 x21 x22 x23 x24 x25 x26 x27 x28 x29 x30 k0 k1 (fun y0 => g y0) a) M x19
def f43L15S {R : Type} (M : Nat) (x60 x62 x63 x64 x65 : Int) (x66 x67 : List Int) (x68 : List V) (x61 : Int) (x69 : List Bool) (k0 : Bool → Int → Bool → Bool → List Bool → Option R) (k1 : Int → Bool → List Bool → Option R) : Option R :=
  rounds (fun (g : Int × (List Bool) → Option R) (a : Int × (List Bool)) => f43L15 x60 x62 x63 x64 x65 x66 x67 x68 k0 k1 (fun y0 y1 => g (y0, y1)) a.1 a.2) M (x61, x69)
def f43L10S {R : Type} (M : Nat) (x48 x49 x50 x51 : Int) (x52 x53 : List Int) (x54 : List V) (x47 : Int) (x55 : List Bool) (k0 : Bool → Int → Bool → Bool → List Bool → Option R) (k1 : Bool → Int → Int → Bool → Bool → List Bool → Option R) (k2 : Int → Bool → List Bool → Option R) : Option R :=
  rounds (fun (g : Int × (List Bool) → Option R) (a : Int × (List Bool)) => f43L10 (f76 M) (f43L15S M) x48 x49 x50 x51 x52 x53 x54 k0 k1 k2 (fun y0 y1 => g (y0, y1)) a.1 a.2) M (x47, x55)
def f43 {R : Type} (M : Nat) (a2 a4 a6 : List V) (a8 : List Int) (a9 a10 a11 a12 : Int) (a14 a16 : List Int) (a18 : List V) (kr : Bool → Option R) : Option R :=
  f43T (f41 M) (f43L4S M) (f43L10S M) a2 a4 a6 a8 a9 a10 a11 a12 a14 a16 a18 kr
abbrev T42 (R : Type) := Int → Int → Int → Int → List Int → List Bool → List Int → (Int → List Int → List Int → Option R) → Option R
abbrev Tf42L4 (R : Type) := List Bool → List Int → Int → Int → Int → Int → List Int → Int → List Int → List Int → List Int → Int → Int → List Int → List Int → (Int → Bool → List Int → List Int → Option R) → Option R
def f42L4 {R : Type} (p44 : T44 R) (p75 : T75 R) (x12 : List Bool) (x13 : List Int) (x15 x16 x17 x18 : Int) (x19 : List Int) (x20 : Int) (x21 x22 x23 : List Int) (x24 : Int) (k0 : Int → Bool → List Int → List Int → Option R) (g0 : Int → List Int → List Int → Option R) (x14 : Int) (x25 x26 : List Int) : Option R :=
 bif (ltI x14 (lenI x13.length)) then
  bif (ltI x14 16) then
   bif (eqI (lenI x25.length) 0) then
    gd (inR x14 x13.length) <|
    gd (nzI (lenI x23.length)) <|
    gd (inR (remI (convI .i64 (List.getD x13 (Int.toNat x14) 0)) (lenI x23.length)) x23.length) <|
    gd (inR (List.getD x23 (Int.toNat (remI (convI .i64 (List.getD x13 (Int.toNat x14) 0)) (lenI x23.length))) 0) x12.length) <|
    bif (notB (List.getD x12 (Int.toNat (List.getD x23 (Int.toNat (remI (convI .i64 (List.getD x13 (Int.toNat x14) 0)) (lenI x23.length))) 0)) false)) then
     gd (okL (x25 ++ [(List.getD x23 (Int.toNat (remI (convI .i64 (List.getD x13 (Int.toNat x14) 0)) (lenI x23.length))) 0)]).length) <|
     gd (okL (x26 ++ [(-1)]).length) <|
     g0 (addI .i64 x14 1) (x25 ++ [(List.getD x23 (Int.toNat (remI (convI .i64 (List.getD x13 (Int.toNat x14) 0)) (lenI x23.length))) 0)]) (x26 ++ [(-1)])
    else
    g0 (addI .i64 x14 1) x25 x26
   else
   gd (inR x14 x13.length) <|
   gd (nzI (lenI x25.length)) <|
   gd (inR (subI .i64 (subI .i64 (lenI x25.length) 1) (remI (convI .i64 (quoI .u8 (List.getD x13 (Int.toNat x14) 0) 64)) (lenI x25.length))) x25.length) <|
   p75 x15 x16 x17 x18 x19 (List.getD x25 (Int.toNat (subI .i64 (subI .i64 (lenI x25.length) 1) (remI (convI .i64 (quoI .u8 (List.getD x13 (Int.toNat x14) 0) 64)) (lenI x25.length)))) 0) (fun y30 =>
    bif (eqI (lenI y30.length) 0) then
     g0 (addI .i64 x14 1) x25 x26
    else
    gd (inR x14 x13.length) <|
    gd (nzI (lenI y30.length)) <|
    gd (inR (remI (convI .i64 (remI (List.getD x13 (Int.toNat x14) 0) 64)) (lenI y30.length)) y30.length) <|
    gd (inR (List.getD y30 (Int.toNat (remI (convI .i64 (remI (List.getD x13 (Int.toNat x14) 0) 64)) (lenI y30.length))) 0) x12.length) <|
    bif (notB (List.getD x12 (Int.toNat (List.getD y30 (Int.toNat (remI (convI .i64 (remI (List.getD x13 (Int.toNat x14) 0) 64)) (lenI y30.length))) 0)) false)) then
     p44 x25 (List.getD y30 (Int.toNat (remI (convI .i64 (remI (List.getD x13 (Int.toNat x14) 0) 64)) (lenI y30.length))) 0) (fun y31 =>
      bif (ltI y31 0) then
       gd (okL (x25 ++ [(List.getD y30 (Int.toNat (remI (convI .i64 (remI (List.getD x13 (Int.toNat x14) 0) 64)) (lenI y30.length))) 0)]).length) <|
       gd (okL (x26 ++ [(subI .i64 (subI .i64 (lenI x25.length) 1) (remI (convI .i64 (quoI .u8 (List.getD x13 (Int.toNat x14) 0) 64)) (lenI x25.length)))]).length) <|
       g0 (addI .i64 x14 1) (x25 ++ [(List.getD y30 (Int.toNat (remI (convI .i64 (remI (List.getD x13 (Int.toNat x14) 0) 64)) (lenI y30.length))) 0)]) (x26 ++ [(subI .i64 (subI .i64 (lenI x25.length) 1) (remI (convI .i64 (quoI .u8 (List.getD x13 (Int.toNat x14) 0) 64)) (lenI x25.length)))])
      else
      g0 (addI .i64 x14 1) x25 x26)
    else
    g0 (addI .i64 x14 1) x25 x26)
  else
  k0 x14 (ltI x14 16) x25 x26
 else
 k0 x14 false x25 x26
def f42T {R : Type} (p74 : T74 R) (sf42L4 : Tf42L4 R) (a1 a2 a3 a4 : Int) (a6 : List Int) (a8 : List Bool) (a10 : List Int) (kr : Int → List Int → List Int → Option R) : Option R :=
 p74 a1 a2 a3 a4 a6 (fun y11 =>
  sf42L4 a8 a10 a1 a2 a3 a4 a6 0 [] [] y11 0 0 [] [] (fun z32 z33 z34 z35 =>
   kr 0 z34 z35))
def f42L4S {R : Type} (M : Nat) (x12 : List Bool) (x13 : List Int) (x15 x16 x17 x18 : Int) (x19 : List Int) (x20 : Int) (x21 x22 x23 : List Int) (x24 x14 : Int) (x25 x26 : List Int) (k0 : Int → Bool → List Int → List Int → Option R) : Option R :=
  rounds (fun (g : Int × (List Int) × (List Int) → Option R) (a : Int × (List Int) × (List Int)) => f42L4 (f44 M) (f75 M) x12 x13 x15 x16 x17 x18 x19 x20 x21 x22 x23 x24 k0 (fun y0 y1 y2 => g (y0, y1, y2)) a.1 a.2.1 a.2.2) M (x14, x25, x26)
def f42 {R : Type} (M : Nat) (a1 a2 a3 a4 : Int) (a6 : List Int) (a8 : List Bool) (a10 : List Int) (kr : Int → List Int → List Int → Option R) : Option R :=
  f42T (f74 M) (f42L4S M) a1 a2 a3 a4 a6 a8 a10 kr
def w72 (P : (R : Type) → T72 R) : Fk := fun R xs k => match xs with
  | [.int .i64 a1, .ints _ .u8 a3] => P R a1 a3 (fun y0 => k [.ints .new .i64 y0])
  | _ => none
abbrev qf72L30 (t8 : Tag) (p0 : Int) (p1 : List Int) (p2 : Int) (p3 : List Int) : St := { t := [(0, .int .i64 p0), (1, .ints t8 .u8 p1), (5, .own 0), (6, .int .i64 p2)], h := [(0, .ints .i64 p3)], fz := [], nx := 1, lo := 0 }
abbrev ef72L30 (t8 : Tag) (p0 : Int) (p1 : List Int) (p2 : Int) (p3 : Bool) (p4 : List Int) : St := { t := [(0, .int .i64 p0), (1, .ints t8 .u8 p1), (5, .own 0), (6, .int .i64 p2), (11, .bool p3)], h := [(0, .ints .i64 p4)], fz := [], nx := 1, lo := 0 }
def smf72L3 (S : (R : Type) → Tf72L3 R) (fb : LOT) : Sm := { d := 40, f := 72, r := 3, p := (qf72L30 .frz 0 [] 0 []), s := fun R l k => match l with
  | .int x4 :: .ints t8 x5 :: .int x6 :: .ints _ x7 :: [] => S R x4 x5 x6 x7 (fun z0 z1 z2 => k (.exit 0) (ef72L30 t8 x4 x5 z0 z1 z2))
  | l => match fillS (qf72L30 .frz 0 [] 0 []) l with
    | some st => fb R 40 72 3 st k
    | none => none }
def w80 (P : (R : Type) → T80 R) : Fk := fun R xs k => match xs with
  | [.agg [.int .i64 a1, .int .i64 a2, .int .i64 a3, .int .i64 a4, .ints _ .i64 a6]] => P R a1 a2 a3 a4 a6 (fun y0 => k [.int .i64 y0])
  | _ => none
def w78 (P : (R : Type) → T78 R) : Fk := fun R xs k => match xs with
  | [.agg [.int .i64 a1, .int .i64 a2, .int .i64 a3, .int .i64 a4, .ints _ .i64 a6]] => P R a1 a2 a3 a4 a6 (fun y0 => k [.int .i64 y0])
  | _ => none
def w79 (P : (R : Type) → T79 R) : Fk := fun R xs k => match xs with
  | [.agg [.int .i64 a1, .int .i64 a2, .int .i64 a3, .int .i64 a4, .ints _ .i64 a6]] => P R a1 a2 a3 a4 a6 (fun y0 => k [.int .i64 y0])
  | _ => none
def w49 (P : (R : Type) → T49 R) : Fk := fun R xs k => match xs with
  | [.agg [.int .i64 a1, .int .i64 a2, .int .i64 a3, .int .i64 a4, .ints _ .i64 a6]] => P R a1 a2 a3 a4 a6 (fun y0 => k [.int .i64 y0])
  | _ => none
def w41 (P : (R : Type) → T41 R) : Fk := fun R xs k => match xs with
  | [.agg [.int .i64 a1, .int .i64 a2, .int .i64 a3, .int .i64 a4, .ints _ .i64 a6]] => P R a1 a2 a3 a4 a6 (fun y0 => k [.int .i64 y0])
  | _ => none
def w39 (P : (R : Type) → T39 R) : Fk := fun R xs k => match xs with
  | [.agg [.int .u8 a1, .int .u8 a2, .int .u8 a3, .int .u8 a4, .ints _ .u8 a6]] => P R a1 a2 a3 a4 a6 (fun y0 y1 y2 y3 y4 => k [.agg [.int .i64 y0, .int .i64 y1, .int .i64 y2, .int .i64 y3, .ints .new .i64 y4]])
  | _ => none
def w44 (P : (R : Type) → T44 R) : Fk := fun R xs k => match xs with
  | [.ints _ .i64 a2, .int .i64 a3] => P R a2 a3 (fun y0 => k [.int .i64 y0])
  | _ => none
abbrev qf44L20 (t7 : Tag) (p0 : List Int) (p1 p2 : Int) : St := { t := [(0, .ints t7 .i64 p0), (1, .int .i64 p1), (5, .int .i64 p2)], h := [], fz := [], nx := 0, lo := 0 }
abbrev ef44L20 (t7 : Tag) (p0 : List Int) (p1 p2 p3 : Int) (p4 p5 : Bool) : St := { t := [(0, .ints t7 .i64 p0), (1, .int .i64 p1), (4, .int .i64 p2), (5, .int .i64 p3), (9, .bool p4), (17, .bool p5)], h := [], fz := [], nx := 0, lo := 0 }
abbrev ef44L21 (t7 : Tag) (p0 : List Int) (p1 p2 : Int) (p3 : Bool) : St := { t := [(0, .ints t7 .i64 p0), (1, .int .i64 p1), (5, .int .i64 p2), (9, .bool p3)], h := [], fz := [], nx := 0, lo := 0 }
def smf44L2 (S : (R : Type) → Tf44L2 R) (fb : LOT) : Sm := { d := 40, f := 44, r := 2, p := (qf44L20 .frz [] 0 0), s := fun R l k => match l with
  | .ints t7 x4 :: .int x5 :: .int x6 :: [] => S R x4 x5 x6 (fun z0 z1 z2 z3 => k .ret (ef44L20 t7 x4 x5 z0 z1 z2 z3)) (fun z0 z1 => k (.exit 0) (ef44L21 t7 x4 x5 z0 z1))
  | l => match fillS (qf44L20 .frz [] 0 0) l with
    | some st => fb R 40 44 2 st k
    | none => none }
def w12 (P : (R : Type) → T12 R) : Fk := fun R xs k => match xs with
  | [.int .i64 a1, .ints _ .u8 a3] => P R a1 a3 (fun y0 => k [.bools .new y0])
  | _ => none
abbrev qf12L30 (t8 : Tag) (p0 : Int) (p1 : List Int) (p2 : Int) (p3 : List Bool) : St := { t := [(0, .int .i64 p0), (1, .ints t8 .u8 p1), (5, .own 0), (6, .int .i64 p2)], h := [(0, .bools p3)], fz := [], nx := 1, lo := 0 }
abbrev ef12L30 (t8 : Tag) (p0 : Int) (p1 : List Int) (p2 : Int) (p3 : Bool) (p4 : List Bool) : St := { t := [(0, .int .i64 p0), (1, .ints t8 .u8 p1), (5, .own 0), (6, .int .i64 p2), (10, .bool p3)], h := [(0, .bools p4)], fz := [], nx := 1, lo := 0 }
def smf12L3 (S : (R : Type) → Tf12L3 R) (fb : LOT) : Sm := { d := 40, f := 12, r := 3, p := (qf12L30 .frz 0 [] 0 []), s := fun R l k => match l with
  | .int x4 :: .ints t8 x5 :: .int x6 :: .bools _ x7 :: [] => S R x4 x5 x6 x7 (fun z0 z1 z2 => k (.exit 0) (ef12L30 t8 x4 x5 z0 z1 z2))
  | l => match fillS (qf12L30 .frz 0 [] 0 []) l with
    | some st => fb R 40 12 3 st k
    | none => none }
def w14 (P : (R : Type) → T14 R) : Fk := fun R xs k => match xs with
  | [.bools _ a2, .bools _ a4] => P R a2 a4 (fun y0 => k [.bool y0])
  | _ => none
abbrev qf14L40 (t8 t9 : Tag) (p0 p1 : List Bool) (p2 : Int) : St := { t := [(0, .bools t8 p0), (1, .bools t9 p1), (5, .int .i64 p2)], h := [], fz := [], nx := 0, lo := 0 }
abbrev ef14L40 (t8 t9 : Tag) (p0 p1 : List Bool) (p2 : Bool) (p3 : Int) (p4 p5 : Bool) : St := { t := [(0, .bools t8 p0), (1, .bools t9 p1), (4, .bool p2), (5, .int .i64 p3), (14, .bool p4), (25, .bool p5)], h := [], fz := [], nx := 0, lo := 0 }
abbrev ef14L41 (t8 t9 : Tag) (p0 p1 : List Bool) (p2 : Int) (p3 : Bool) : St := { t := [(0, .bools t8 p0), (1, .bools t9 p1), (5, .int .i64 p2), (14, .bool p3)], h := [], fz := [], nx := 0, lo := 0 }
def smf14L4 (S : (R : Type) → Tf14L4 R) (fb : LOT) : Sm := { d := 40, f := 14, r := 4, p := (qf14L40 .frz .frz [] [] 0), s := fun R l k => match l with
  | .bools t8 x5 :: .bools t9 x6 :: .int x7 :: [] => S R x5 x6 x7 (fun z0 z1 z2 z3 => k .ret (ef14L40 t8 t9 x5 x6 z0 z1 z2 z3)) (fun z0 z1 => k (.exit 0) (ef14L41 t8 t9 x5 x6 z0 z1))
  | l => match fillS (qf14L40 .frz .frz [] [] 0) l with
    | some st => fb R 40 14 4 st k
    | none => none }
def w90 (P : (R : Type) → T90 R) : Fk := fun R xs k => match xs with
  | [.agg [.int .i64 a1, .int .i64 a2, .int .i64 a3, .int .i64 a4, .ints _ .i64 a6], .agg [.int .i64 a7, .int .i64 a8, .int .i64 a9, .int .i64 a10], .int .i64 a11, .int .i64 a12] => P R a1 a2 a3 a4 a6 a7 a8 a9 a10 a11 a12 (fun y0 => k [.bool y0])
  | _ => none
def w91 (P : (R : Type) → T91 R) : Fk := fun R xs k => match xs with
  | [.agg [.int .i64 a1, .int .i64 a2, .int .i64 a3, .int .i64 a4]] => P R a1 a2 a3 a4 (fun y0 => k [.bool y0])
  | _ => none
def w92 (P : (R : Type) → T92 R) : Fk := fun R xs k => match xs with
  | [.agg [.int .i64 a1, .int .i64 a2, .int .i64 a3, .int .i64 a4, .ints _ .i64 a6], .agg [.int .i64 a7, .int .i64 a8, .int .i64 a9, .int .i64 a10], .agg [.int .i64 a11, .int .i64 a12, .int .i64 a13, .int .i64 a14]] => P R a1 a2 a3 a4 a6 a7 a8 a9 a10 a11 a12 a13 a14 (fun y0 => k [.bool y0])
  | _ => none
def w77 (P : (R : Type) → T77 R) : Fk := fun R xs k => match xs with
  | [.agg [.int .i64 a1, .int .i64 a2, .int .i64 a3, .int .i64 a4, .ints _ .i64 a6], .agg [.int .i64 a7, .int .i64 a8, .int .i64 a9, .int .i64 a10], .agg [.int .i64 a11, .int .i64 a12, .int .i64 a13, .int .i64 a14]] => P R a1 a2 a3 a4 a6 a7 a8 a9 a10 a11 a12 a13 a14 (fun y0 => k [.bool y0])
  | _ => none
def w48 (P : (R : Type) → T48 R) : Fk := fun R xs k => match xs with
  | [.agg [.int .i64 a1, .int .i64 a2, .int .i64 a3, .int .i64 a4, .ints _ .i64 a6], .int .i64 a7] => P R a1 a2 a3 a4 a6 a7 (fun y0 y1 y2 y3 y4 => k [.agg [.int .i64 y0, .int .i64 y1, .int .i64 y2, .int .i64 y3, .int .i64 y4]])
  | _ => none
def w45 (P : (R : Type) → T45 R) : Fk := fun R xs k => match xs with
  | [.agg [.int .i64 a1, .int .i64 a2, .int .i64 a3, .int .i64 a4, .ints _ .i64 a6], .int .i64 a7] => P R a1 a2 a3 a4 a6 a7 (fun y0 => k [.ints .new .i64 y0])
  | _ => none
abbrev qf45L40 (t25 : Tag) (p0 p1 p2 p3 p4 : Int) (p5 p6 : List Int) (p7 p8 p9 p10 p11 : Int) : St := { t := [(2, .ptr 0 0), (5, .own 1), (6, .ptr 2 0), (7, .int .i64 p0)], h := [(0, .cells [.int .i64 p1, .int .i64 p2, .int .i64 p3, .int .i64 p4, .ints t25 .i64 p5]), (1, .ints .i64 p6), (2, .cells [.int .i64 p7, .int .i64 p8, .int .i64 p9, .int .i64 p10, .int .i64 p11])], fz := [], nx := 3, lo := 0 }
abbrev ef45L40 (t25 : Tag) (p0 : Int) (p1 : Bool) (p2 p3 p4 p5 : Int) (p6 p7 : List Int) (p8 p9 p10 p11 p12 : Int) : St := { t := [(2, .ptr 0 0), (5, .own 1), (6, .ptr 2 0), (7, .int .i64 p0), (20, .bool p1)], h := [(0, .cells [.int .i64 p2, .int .i64 p3, .int .i64 p4, .int .i64 p5, .ints t25 .i64 p6]), (1, .ints .i64 p7), (2, .cells [.int .i64 p8, .int .i64 p9, .int .i64 p10, .int .i64 p11, .int .i64 p12])], fz := [], nx := 3, lo := 0 }
def smf45L4 (S : (R : Type) → Tf45L4 R) (fb : LOT) : Sm := { d := 40, f := 45, r := 4, p := (qf45L40 .frz 0 0 0 0 0 [] [] 0 0 0 0 0), s := fun R l k => match l with
  | .int x13 :: .int x14 :: .int x15 :: .int x16 :: .int x17 :: .ints t25 x18 :: .ints _ x19 :: .int x20 :: .int x21 :: .int x22 :: .int x23 :: .int x24 :: [] => S R x14 x15 x16 x17 x18 x20 x21 x22 x23 x24 x13 x19 (fun z0 z1 z2 => k (.exit 0) (ef45L40 t25 z0 z1 x14 x15 x16 x17 x18 z2 x20 x21 x22 x23 x24))
  | l => match fillS (qf45L40 .frz 0 0 0 0 0 [] [] 0 0 0 0 0) l with
    | some st => fb R 40 45 4 st k
    | none => none }
def w46 (P : (R : Type) → T46 R) : Fk := fun R xs k => match xs with
  | [.agg [.int .i64 a1, .int .i64 a2, .int .i64 a3, .int .i64 a4, .ints _ .i64 a6], .int .i64 a7] => P R a1 a2 a3 a4 a6 a7 (fun y0 => k [.int .i64 y0])
  | _ => none
def w81 (P : (R : Type) → T81 R) : Fk := fun R xs k => match xs with
  | [.int .i64 a1, .bools _ a3] => P R a1 a3 (fun y0 => k [.bool y0])
  | _ => none
abbrev qf81L50 (t9 : Tag) (p0 p1 : Int) (p2 : List Bool) (p3 p4 : Int) : St := { t := [(0, .int .i64 p0), (5, .int .i64 p1), (11, .bools t9 p2), (12, .int .i64 p3), (13, .int .i64 p4)], h := [], fz := [], nx := 0, lo := 0 }
abbrev ef81L50 (t9 : Tag) (p0 p1 : Int) (p2 : List Bool) (p3 p4 : Int) (p5 : Bool) : St := { t := [(0, .int .i64 p0), (5, .int .i64 p1), (11, .bools t9 p2), (12, .int .i64 p3), (13, .int .i64 p4), (14, .bool p5)], h := [], fz := [], nx := 0, lo := 0 }
def smf81L5 (S : (R : Type) → Tf81L5 R) (fb : LOT) : Sm := { d := 40, f := 81, r := 5, p := (qf81L50 .frz 0 0 [] 0 0), s := fun R l k => match l with
  | .int x4 :: .int x5 :: .bools t9 x6 :: .int x7 :: .int x8 :: [] => S R x4 x6 x7 x5 x8 (fun z0 z1 z2 => k (.exit 0) (ef81L50 t9 x4 z0 x6 x7 z1 z2))
  | l => match fillS (qf81L50 .frz 0 0 [] 0 0) l with
    | some st => fb R 40 81 5 st k
    | none => none }
def w73 (P : (R : Type) → T73 R) : Fk := fun R xs k => match xs with
  | [.agg [.int .i64 a1, .int .i64 a2, .int .i64 a3, .int .i64 a4, .ints _ .i64 a6], .agg [.ints _ .i64 a8, .int .i64 a9, .int .i64 a10, .int .i64 a11, .int .u64 a12], .int .i64 a13] => P R a1 a2 a3 a4 a6 a8 a9 a10 a11 a12 a13 (fun y0 => k [.bool y0])
  | _ => none
def w74 (P : (R : Type) → T74 R) : Fk := fun R xs k => match xs with
  | [.agg [.int .i64 a1, .int .i64 a2, .int .i64 a3, .int .i64 a4, .ints _ .i64 a6]] => P R a1 a2 a3 a4 a6 (fun y0 => k [.ints .new .i64 y0])
  | _ => none
abbrev qf74L30 (t14 : Tag) (p0 p1 p2 p3 p4 : Int) (p5 p6 : List Int) : St := { t := [(1, .ptr 0 0), (3, .own 1), (4, .int .i64 p0)], h := [(0, .cells [.int .i64 p1, .int .i64 p2, .int .i64 p3, .int .i64 p4, .ints t14 .i64 p5]), (1, .ints .i64 p6)], fz := [], nx := 2, lo := 0 }
abbrev ef74L30 (t14 : Tag) (p0 : Int) (p1 : Bool) (p2 p3 p4 p5 : Int) (p6 p7 : List Int) : St := { t := [(1, .ptr 0 0), (3, .own 1), (4, .int .i64 p0), (10, .bool p1)], h := [(0, .cells [.int .i64 p2, .int .i64 p3, .int .i64 p4, .int .i64 p5, .ints t14 .i64 p6]), (1, .ints .i64 p7)], fz := [], nx := 2, lo := 0 }
def smf74L3 (S : (R : Type) → Tf74L3 R) (fb : LOT) : Sm := { d := 40, f := 74, r := 3, p := (qf74L30 .frz 0 0 0 0 0 [] []), s := fun R l k => match l with
  | .int x7 :: .int x8 :: .int x9 :: .int x10 :: .int x11 :: .ints t14 x12 :: .ints _ x13 :: [] => S R x8 x9 x10 x11 x12 x7 x13 (fun z0 z1 z2 => k (.exit 0) (ef74L30 t14 z0 z1 x8 x9 x10 x11 x12 z2))
  | l => match fillS (qf74L30 .frz 0 0 0 0 0 [] []) l with
    | some st => fb R 40 74 3 st k
    | none => none }
def w75 (P : (R : Type) → T75 R) : Fk := fun R xs k => match xs with
  | [.agg [.int .i64 a1, .int .i64 a2, .int .i64 a3, .int .i64 a4, .ints _ .i64 a6], .int .i64 a7] => P R a1 a2 a3 a4 a6 a7 (fun y0 => k [.ints .new .i64 y0])
  | _ => none
abbrev qf75L40 (t25 : Tag) (p0 p1 p2 p3 p4 : Int) (p5 p6 : List Int) (p7 p8 p9 p10 p11 : Int) : St := { t := [(2, .ptr 0 0), (5, .own 1), (6, .ptr 2 0), (7, .int .i64 p0)], h := [(0, .cells [.int .i64 p1, .int .i64 p2, .int .i64 p3, .int .i64 p4, .ints t25 .i64 p5]), (1, .ints .i64 p6), (2, .cells [.int .i64 p7, .int .i64 p8, .int .i64 p9, .int .i64 p10, .int .i64 p11])], fz := [], nx := 3, lo := 0 }
abbrev ef75L40 (t25 : Tag) (p0 : Int) (p1 : Bool) (p2 p3 p4 p5 : Int) (p6 p7 : List Int) (p8 p9 p10 p11 p12 : Int) : St := { t := [(2, .ptr 0 0), (5, .own 1), (6, .ptr 2 0), (7, .int .i64 p0), (20, .bool p1)], h := [(0, .cells [.int .i64 p2, .int .i64 p3, .int .i64 p4, .int .i64 p5, .ints t25 .i64 p6]), (1, .ints .i64 p7), (2, .cells [.int .i64 p8, .int .i64 p9, .int .i64 p10, .int .i64 p11, .int .i64 p12])], fz := [], nx := 3, lo := 0 }
def smf75L4 (S : (R : Type) → Tf75L4 R) (fb : LOT) : Sm := { d := 40, f := 75, r := 4, p := (qf75L40 .frz 0 0 0 0 0 [] [] 0 0 0 0 0), s := fun R l k => match l with
  | .int x13 :: .int x14 :: .int x15 :: .int x16 :: .int x17 :: .ints t25 x18 :: .ints _ x19 :: .int x20 :: .int x21 :: .int x22 :: .int x23 :: .int x24 :: [] => S R x14 x15 x16 x17 x18 x20 x21 x22 x23 x24 x13 x19 (fun z0 z1 z2 => k (.exit 0) (ef75L40 t25 z0 z1 x14 x15 x16 x17 x18 z2 x20 x21 x22 x23 x24))
  | l => match fillS (qf75L40 .frz 0 0 0 0 0 [] [] 0 0 0 0 0) l with
    | some st => fb R 40 75 4 st k
    | none => none }
def w76 (P : (R : Type) → T76 R) : Fk := fun R xs k => match xs with
  | [.agg [.int .i64 a1, .int .i64 a2, .int .i64 a3, .int .i64 a4, .ints _ .i64 a6], .agg [.int .i64 a7, .ints _ .i64 a9, .ints _ .i64 a11]] => P R a1 a2 a3 a4 a6 a7 a9 a11 (fun y0 => k [.bool y0])
  | _ => none
abbrev qf76L70 (t27 t28 t29 : Tag) (p0 p1 p2 p3 p4 : Int) (p5 : List Int) (p6 : Int) (p7 p8 : List Int) : St := { t := [(2, .ptr 0 0), (3, .ptr 1 0), (6, .int .i64 p0)], h := [(0, .cells [.int .i64 p1, .int .i64 p2, .int .i64 p3, .int .i64 p4, .ints t27 .i64 p5]), (1, .cells [.int .i64 p6, .ints t28 .i64 p7, .ints t29 .i64 p8])], fz := [], nx := 2, lo := 0 }
abbrev ef76L70 (t27 t28 t29 : Tag) (p0 : Bool) (p1 : Int) (p2 p3 : Bool) (p4 p5 p6 p7 : Int) (p8 : List Int) (p9 : Int) (p10 p11 : List Int) : St := { t := [(2, .ptr 0 0), (3, .ptr 1 0), (4, .bool p0), (6, .int .i64 p1), (49, .bool p2), (86, .bool p3)], h := [(0, .cells [.int .i64 p4, .int .i64 p5, .int .i64 p6, .int .i64 p7, .ints t27 .i64 p8]), (1, .cells [.int .i64 p9, .ints t28 .i64 p10, .ints t29 .i64 p11])], fz := [], nx := 2, lo := 0 }
abbrev ef76L71 (t27 t28 t29 : Tag) (p0 : Bool) (p1 : Int) (p2 p3 : Bool) (p4 p5 p6 p7 : Int) (p8 : List Int) (p9 : Int) (p10 p11 p12 : List Int) : St := { t := [(2, .ptr 0 0), (3, .ptr 1 0), (4, .bool p0), (6, .int .i64 p1), (49, .bool p2), (86, .bool p3)], h := [(0, .cells [.int .i64 p4, .int .i64 p5, .int .i64 p6, .int .i64 p7, .ints t27 .i64 p8]), (1, .cells [.int .i64 p9, .ints t28 .i64 p10, .ints t29 .i64 p11]), (2, .ints .i64 p12)], fz := [], nx := 3, lo := 0 }
abbrev ef76L72 (t27 t28 t29 : Tag) (p0 : Int) (p1 : Bool) (p2 p3 p4 p5 : Int) (p6 : List Int) (p7 : Int) (p8 p9 : List Int) : St := { t := [(2, .ptr 0 0), (3, .ptr 1 0), (6, .int .i64 p0), (49, .bool p1)], h := [(0, .cells [.int .i64 p2, .int .i64 p3, .int .i64 p4, .int .i64 p5, .ints t27 .i64 p6]), (1, .cells [.int .i64 p7, .ints t28 .i64 p8, .ints t29 .i64 p9])], fz := [], nx := 2, lo := 0 }
def smf76L7 (S : (R : Type) → Tf76L7 R) (fb : LOT) : Sm := { d := 40, f := 76, r := 7, p := (qf76L70 .frz .frz .frz 0 0 0 0 0 [] 0 [] []), s := fun R l k => match l with
  | .int x18 :: .int x19 :: .int x20 :: .int x21 :: .int x22 :: .ints t27 x23 :: .int x24 :: .ints t28 x25 :: .ints t29 x26 :: [] => S R x19 x20 x21 x22 x23 x24 x25 x26 x18 (fun z0 z1 z2 z3 => k .ret (ef76L70 t27 t28 t29 z0 z1 z2 z3 x19 x20 x21 x22 x23 x24 x25 x26)) (fun z0 z1 z2 z3 z4 => k .ret (ef76L71 t27 t28 t29 z0 z1 z2 z3 x19 x20 x21 x22 x23 x24 x25 x26 z4)) (fun z0 z1 => k (.exit 0) (ef76L72 t27 t28 t29 z0 z1 x19 x20 x21 x22 x23 x24 x25 x26))
  | l => match fillS (qf76L70 .frz .frz .frz 0 0 0 0 0 [] 0 [] []) l with
    | some st => fb R 40 76 7 st k
    | none => none }
def w43 (P : (R : Type) → T43 R) : Fk := fun R xs k => match xs with
  | [.agg [.vals _ 151 a2, .vals _ 120 a4, .vals _ 151 a6, .ints _ .i64 a8], .agg [.int .i64 a9, .int .i64 a10, .int .i64 a11, .int .i64 a12, .ints _ .i64 a14], .agg [.ints _ .i64 a16, .vals _ 115 a18]] => P R a2 a4 a6 a8 a9 a10 a11 a12 a14 a16 a18 (fun y0 => k [.bool y0])
  | _ => none
abbrev qf43L40 (t31 t32 t33 t34 t35 t36 t37 : Tag) (p0 : Int) (p1 p2 p3 : List V) (p4 : List Int) (p5 p6 p7 p8 : Int) (p9 p10 : List Int) (p11 : List V) : St := { t := [(3, .ptr 0 0), (4, .ptr 1 0), (5, .ptr 2 0), (7, .int .i64 p0)], h := [(0, .cells [.vals t31 151 p1, .vals t32 120 p2, .vals t33 151 p3, .ints t34 .i64 p4]), (1, .cells [.int .i64 p5, .int .i64 p6, .int .i64 p7, .int .i64 p8, .ints t35 .i64 p9]), (2, .cells [.ints t36 .i64 p10, .vals t37 115 p11])], fz := [], nx := 3, lo := 0 }
abbrev ef43L40 (t31 t32 t33 t34 t35 t36 t37 : Tag) (p0 : Bool) (p1 : Int) (p2 p3 : Bool) (p4 p5 p6 : List V) (p7 : List Int) (p8 p9 p10 p11 : Int) (p12 p13 : List Int) (p14 : List V) : St := { t := [(3, .ptr 0 0), (4, .ptr 1 0), (5, .ptr 2 0), (6, .bool p0), (7, .int .i64 p1), (22, .bool p2), (50, .bool p3)], h := [(0, .cells [.vals t31 151 p4, .vals t32 120 p5, .vals t33 151 p6, .ints t34 .i64 p7]), (1, .cells [.int .i64 p8, .int .i64 p9, .int .i64 p10, .int .i64 p11, .ints t35 .i64 p12]), (2, .cells [.ints t36 .i64 p13, .vals t37 115 p14])], fz := [], nx := 3, lo := 0 }
abbrev ef43L41 (t31 t32 t33 t34 t35 t36 t37 : Tag) (p0 : Int) (p1 : Bool) (p2 p3 p4 : List V) (p5 : List Int) (p6 p7 p8 p9 : Int) (p10 p11 : List Int) (p12 : List V) : St := { t := [(3, .ptr 0 0), (4, .ptr 1 0), (5, .ptr 2 0), (7, .int .i64 p0), (22, .bool p1)], h := [(0, .cells [.vals t31 151 p2, .vals t32 120 p3, .vals t33 151 p4, .ints t34 .i64 p5]), (1, .cells [.int .i64 p6, .int .i64 p7, .int .i64 p8, .int .i64 p9, .ints t35 .i64 p10]), (2, .cells [.ints t36 .i64 p11, .vals t37 115 p12])], fz := [], nx := 3, lo := 0 }
def smf43L4 (S : (R : Type) → Tf43L4 R) (fb : LOT) : Sm := { d := 40, f := 43, r := 4, p := (qf43L40 .frz .frz .frz .frz .frz .frz .frz 0 [] [] [] [] 0 0 0 0 [] [] []), s := fun R l k => match l with
  | .int x19 :: .vals t31 x20 :: .vals t32 x21 :: .vals t33 x22 :: .ints t34 x23 :: .int x24 :: .int x25 :: .int x26 :: .int x27 :: .ints t35 x28 :: .ints t36 x29 :: .vals t37 x30 :: [] => S R x20 x21 x22 x23 x24 x25 x26 x27 x28 x29 x30 x19 (fun z0 z1 z2 z3 => k .ret (ef43L40 t31 t32 t33 t34 t35 t36 t37 z0 z1 z2 z3 x20 x21 x22 x23 x24 x25 x26 x27 x28 x29 x30)) (fun z0 z1 => k (.exit 0) (ef43L41 t31 t32 t33 t34 t35 t36 t37 z0 z1 x20 x21 x22 x23 x24 x25 x26 x27 x28 x29 x30))
  | l => match fillS (qf43L40 .frz .frz .frz .frz .frz .frz .frz 0 [] [] [] [] 0 0 0 0 [] [] []) l with
    | some st => fb R 40 43 4 st k
    | none => none }
abbrev qf43L150 (t70 t71 t72 : Tag) (p0 p1 p2 p3 p4 p5 : Int) (p6 p7 : List Int) (p8 : List V) (p9 : List Bool) : St := { t := [(4, .ptr 0 0), (5, .ptr 1 0), (8, .own 2), (9, .int .i64 p0), (10, .int .i64 p1)], h := [(0, .cells [.int .i64 p2, .int .i64 p3, .int .i64 p4, .int .i64 p5, .ints t70 .i64 p6]), (1, .cells [.ints t71 .i64 p7, .vals t72 115 p8]), (2, .bools p9)], fz := [], nx := 3, lo := 0 }
abbrev ef43L150 (t70 t71 t72 : Tag) (p0 : Bool) (p1 p2 : Int) (p3 p4 : Bool) (p5 p6 p7 p8 : Int) (p9 p10 : List Int) (p11 : List V) (p12 : List Bool) : St := { t := [(4, .ptr 0 0), (5, .ptr 1 0), (6, .bool p0), (8, .own 2), (9, .int .i64 p1), (10, .int .i64 p2), (77, .bool p3), (91, .bool p4)], h := [(0, .cells [.int .i64 p5, .int .i64 p6, .int .i64 p7, .int .i64 p8, .ints t70 .i64 p9]), (1, .cells [.ints t71 .i64 p10, .vals t72 115 p11]), (2, .bools p12)], fz := [], nx := 3, lo := 0 }
abbrev ef43L151 (t70 t71 t72 : Tag) (p0 p1 : Int) (p2 : Bool) (p3 p4 p5 p6 : Int) (p7 p8 : List Int) (p9 : List V) (p10 : List Bool) : St := { t := [(4, .ptr 0 0), (5, .ptr 1 0), (8, .own 2), (9, .int .i64 p0), (10, .int .i64 p1), (77, .bool p2)], h := [(0, .cells [.int .i64 p3, .int .i64 p4, .int .i64 p5, .int .i64 p6, .ints t70 .i64 p7]), (1, .cells [.ints t71 .i64 p8, .vals t72 115 p9]), (2, .bools p10)], fz := [], nx := 3, lo := 0 }
def smf43L15 (S : (R : Type) → Tf43L15 R) (fb : LOT) : Sm := { d := 40, f := 43, r := 15, p := (qf43L150 .frz .frz .frz 0 0 0 0 0 0 [] [] [] []), s := fun R l k => match l with
  | .int x60 :: .int x61 :: .int x62 :: .int x63 :: .int x64 :: .int x65 :: .ints t70 x66 :: .ints t71 x67 :: .vals t72 x68 :: .bools _ x69 :: [] => S R x60 x62 x63 x64 x65 x66 x67 x68 x61 x69 (fun z0 z1 z2 z3 z4 => k .ret (ef43L150 t70 t71 t72 z0 x60 z1 z2 z3 x62 x63 x64 x65 x66 x67 x68 z4)) (fun z0 z1 z2 => k (.exit 4) (ef43L151 t70 t71 t72 x60 z0 z1 x62 x63 x64 x65 x66 x67 x68 z2))
  | l => match fillS (qf43L150 .frz .frz .frz 0 0 0 0 0 0 [] [] [] []) l with
    | some st => fb R 40 43 15 st k
    | none => none }
abbrev qf43L100 (t56 t57 t58 : Tag) (p0 p1 p2 p3 p4 : Int) (p5 p6 : List Int) (p7 : List V) (p8 : List Bool) : St := { t := [(4, .ptr 0 0), (5, .ptr 1 0), (8, .own 2), (9, .int .i64 p0)], h := [(0, .cells [.int .i64 p1, .int .i64 p2, .int .i64 p3, .int .i64 p4, .ints t56 .i64 p5]), (1, .cells [.ints t57 .i64 p6, .vals t58 115 p7]), (2, .bools p8)], fz := [], nx := 3, lo := 0 }
abbrev ef43L100 (t56 t57 t58 : Tag) (p0 : Bool) (p1 : Int) (p2 p3 : Bool) (p4 p5 p6 p7 : Int) (p8 p9 : List Int) (p10 : List V) (p11 : List Bool) : St := { t := [(4, .ptr 0 0), (5, .ptr 1 0), (6, .bool p0), (8, .own 2), (9, .int .i64 p1), (58, .bool p2), (68, .bool p3)], h := [(0, .cells [.int .i64 p4, .int .i64 p5, .int .i64 p6, .int .i64 p7, .ints t56 .i64 p8]), (1, .cells [.ints t57 .i64 p9, .vals t58 115 p10]), (2, .bools p11)], fz := [], nx := 3, lo := 0 }
abbrev ef43L101 (t56 t57 t58 : Tag) (p0 : Bool) (p1 p2 : Int) (p3 p4 : Bool) (p5 p6 p7 p8 : Int) (p9 p10 : List Int) (p11 : List V) (p12 : List Bool) : St := { t := [(4, .ptr 0 0), (5, .ptr 1 0), (6, .bool p0), (8, .own 2), (9, .int .i64 p1), (10, .int .i64 p2), (77, .bool p3), (91, .bool p4)], h := [(0, .cells [.int .i64 p5, .int .i64 p6, .int .i64 p7, .int .i64 p8, .ints t56 .i64 p9]), (1, .cells [.ints t57 .i64 p10, .vals t58 115 p11]), (2, .bools p12)], fz := [], nx := 3, lo := 0 }
abbrev ef43L102 (t56 t57 t58 : Tag) (p0 : Int) (p1 : Bool) (p2 p3 p4 p5 : Int) (p6 p7 : List Int) (p8 : List V) (p9 : List Bool) : St := { t := [(4, .ptr 0 0), (5, .ptr 1 0), (8, .own 2), (9, .int .i64 p0), (58, .bool p1)], h := [(0, .cells [.int .i64 p2, .int .i64 p3, .int .i64 p4, .int .i64 p5, .ints t56 .i64 p6]), (1, .cells [.ints t57 .i64 p7, .vals t58 115 p8]), (2, .bools p9)], fz := [], nx := 3, lo := 0 }
def smf43L10 (S : (R : Type) → Tf43L10 R) (fb : LOT) : Sm := { d := 40, f := 43, r := 10, p := (qf43L100 .frz .frz .frz 0 0 0 0 0 [] [] [] []), s := fun R l k => match l with
  | .int x47 :: .int x48 :: .int x49 :: .int x50 :: .int x51 :: .ints t56 x52 :: .ints t57 x53 :: .vals t58 x54 :: .bools _ x55 :: [] => S R x48 x49 x50 x51 x52 x53 x54 x47 x55 (fun z0 z1 z2 z3 z4 => k .ret (ef43L100 t56 t57 t58 z0 z1 z2 z3 x48 x49 x50 x51 x52 x53 x54 z4)) (fun z0 z1 z2 z3 z4 z5 => k .ret (ef43L101 t56 t57 t58 z0 z1 z2 z3 z4 x48 x49 x50 x51 x52 x53 x54 z5)) (fun z0 z1 z2 => k (.exit 2) (ef43L102 t56 t57 t58 z0 z1 x48 x49 x50 x51 x52 x53 x54 z2))
  | l => match fillS (qf43L100 .frz .frz .frz 0 0 0 0 0 [] [] [] []) l with
    | some st => fb R 40 43 10 st k
    | none => none }
def w42 (P : (R : Type) → T42 R) : Fk := fun R xs k => match xs with
  | [.agg [.int .i64 a1, .int .i64 a2, .int .i64 a3, .int .i64 a4, .ints _ .i64 a6], .bools _ a8, .ints _ .u8 a10] => P R a1 a2 a3 a4 a6 a8 a10 (fun y0 y1 y2 => k [.agg [.int .i64 y0, .ints .new .i64 y1, .ints .new .i64 y2]])
  | _ => none
abbrev qf42L40 (t27 t28 t29 : Tag) (p0 : List Bool) (p1 : List Int) (p2 p3 p4 p5 p6 : Int) (p7 : List Int) (p8 : Int) (p9 p10 p11 : List Int) (p12 : Int) (p13 p14 : List Int) : St := { t := [(1, .bools t27 p0), (2, .ints t28 .u8 p1), (3, .ptr 0 0), (6, .ptr 1 0), (7, .own 4), (8, .ptr 5 0), (9, .int .i64 p2)], h := [(0, .cells [.int .i64 p3, .int .i64 p4, .int .i64 p5, .int .i64 p6, .ints t29 .i64 p7]), (1, .cells [.int .i64 p8, .own 2, .own 3]), (2, .ints .i64 p9), (3, .ints .i64 p10), (4, .ints .i64 p11), (5, .cells [.int .i64 p12, .own 6, .own 7]), (6, .ints .i64 p13), (7, .ints .i64 p14)], fz := [], nx := 8, lo := 0 }
abbrev ef42L40 (t27 t28 t29 : Tag) (p0 : List Bool) (p1 : List Int) (p2 : Int) (p3 : Bool) (p4 p5 p6 p7 : Int) (p8 : List Int) (p9 : Int) (p10 p11 p12 : List Int) (p13 : Int) (p14 p15 : List Int) : St := { t := [(1, .bools t27 p0), (2, .ints t28 .u8 p1), (3, .ptr 0 0), (6, .ptr 1 0), (7, .own 4), (8, .ptr 5 0), (9, .int .i64 p2), (24, .bool p3)], h := [(0, .cells [.int .i64 p4, .int .i64 p5, .int .i64 p6, .int .i64 p7, .ints t29 .i64 p8]), (1, .cells [.int .i64 p9, .own 2, .own 3]), (2, .ints .i64 p10), (3, .ints .i64 p11), (4, .ints .i64 p12), (5, .cells [.int .i64 p13, .own 6, .own 7]), (6, .ints .i64 p14), (7, .ints .i64 p15)], fz := [], nx := 8, lo := 0 }
def smf42L4 (S : (R : Type) → Tf42L4 R) (fb : LOT) : Sm := { d := 40, f := 42, r := 4, p := (qf42L40 .frz .frz .frz [] [] 0 0 0 0 0 [] 0 [] [] [] 0 [] []), s := fun R l k => match l with
  | .bools t27 x12 :: .ints t28 x13 :: .int x14 :: .int x15 :: .int x16 :: .int x17 :: .int x18 :: .ints t29 x19 :: .int x20 :: .ints _ x21 :: .ints _ x22 :: .ints _ x23 :: .int x24 :: .ints _ x25 :: .ints _ x26 :: [] => S R x12 x13 x15 x16 x17 x18 x19 x20 x21 x22 x23 x24 x14 x25 x26 (fun z0 z1 z2 z3 => k (.exit 0) (ef42L40 t27 t28 t29 x12 x13 z0 z1 x15 x16 x17 x18 x19 x20 x21 x22 x23 x24 z2 z3))
  | l => match fillS (qf42L40 .frz .frz .frz [] [] 0 0 0 0 0 [] 0 [] [] [] 0 [] []) l with
    | some st => fb R 40 42 4 st k
    | none => none }
theorem f72L3_seg {R : Type} (LO : LOT) (g : St → Option R) (k : Ex → St → Option R) (t8 : Tag) (x4 : Int) (x5 : List Int) (x6 : Int) (x7 : List Int) :
    execL env (callsL env (tabOf []) spG (LOs [] LO) [] 40) 72 ((LOs [] LO) R 40 72) ((loopOf env 72 3).getD .skip) (qf72L30 t8 x4 x5 x6 x7) (bodyK env 72 3 g k) =
      f72L3 x4 x5 (fun z0 z1 z2 => k (.exit 0) (ef72L30 t8 x4 x5 z0 z1 z2)) (fun y0 y1 => g (qf72L30 t8 x4 x5 y0 y1)) x6 x7 := by kernel_rfl
theorem f72_seg {R : Type} (Sf72L3 : (R : Type) → Tf72L3 R) (LO : LOT) (k : List V → Option R) (t2 : Tag) (a1 : Int) (a3 : List Int) :
    pureBodyLK env (callsL env (tabOf []) spG (LOs [smf72L3 Sf72L3 LO] LO) [] 40) 72 ((LOs [smf72L3 Sf72L3 LO] LO) R 40 72) [.int .i64 a1, .ints t2 .u8 a3] k =
      f72T (Sf72L3 R) a1 a3 (fun y0 => k [.ints .new .i64 y0]) := by kernel_rfl
theorem f80_seg {R : Type} (LO : LOT) (k : List V → Option R) (t5 : Tag) (a1 a2 a3 a4 : Int) (a6 : List Int) :
    pureBodyLK env (callsL env (tabOf []) spG (LOs [] LO) [] 40) 80 ((LOs [] LO) R 40 80) [.agg [.int .i64 a1, .int .i64 a2, .int .i64 a3, .int .i64 a4, .ints t5 .i64 a6]] k =
      f80T a1 a2 a3 a4 a6 (fun y0 => k [.int .i64 y0]) := by kernel_rfl
theorem f78_seg {R : Type} (P80 : (R : Type) → T80 R) (LO : LOT) (k : List V → Option R) (t5 : Tag) (a1 a2 a3 a4 : Int) (a6 : List Int) :
    pureBodyLK env (callsL env (tabOf [(80, w80 P80)]) spG (LOs [] LO) [] 40) 78 ((LOs [] LO) R 40 78) [.agg [.int .i64 a1, .int .i64 a2, .int .i64 a3, .int .i64 a4, .ints t5 .i64 a6]] k =
      f78T (P80 R) a1 a2 a3 a4 a6 (fun y0 => k [.int .i64 y0]) := by kernel_rfl
theorem f79_seg {R : Type} (P78 : (R : Type) → T78 R) (LO : LOT) (k : List V → Option R) (t5 : Tag) (a1 a2 a3 a4 : Int) (a6 : List Int) :
    pureBodyLK env (callsL env (tabOf [(78, w78 P78)]) spG (LOs [] LO) [] 40) 79 ((LOs [] LO) R 40 79) [.agg [.int .i64 a1, .int .i64 a2, .int .i64 a3, .int .i64 a4, .ints t5 .i64 a6]] k =
      f79T (P78 R) a1 a2 a3 a4 a6 (fun y0 => k [.int .i64 y0]) := by kernel_rfl
theorem f49_seg {R : Type} (LO : LOT) (k : List V → Option R) (t5 : Tag) (a1 a2 a3 a4 : Int) (a6 : List Int) :
    pureBodyLK env (callsL env (tabOf []) spG (LOs [] LO) [] 40) 49 ((LOs [] LO) R 40 49) [.agg [.int .i64 a1, .int .i64 a2, .int .i64 a3, .int .i64 a4, .ints t5 .i64 a6]] k =
      f49T a1 a2 a3 a4 a6 (fun y0 => k [.int .i64 y0]) := by kernel_rfl
theorem f41_seg {R : Type} (P49 : (R : Type) → T49 R) (LO : LOT) (k : List V → Option R) (t5 : Tag) (a1 a2 a3 a4 : Int) (a6 : List Int) :
    pureBodyLK env (callsL env (tabOf [(49, w49 P49)]) spG (LOs [] LO) [] 40) 41 ((LOs [] LO) R 40 41) [.agg [.int .i64 a1, .int .i64 a2, .int .i64 a3, .int .i64 a4, .ints t5 .i64 a6]] k =
      f41T (P49 R) a1 a2 a3 a4 a6 (fun y0 => k [.int .i64 y0]) := by kernel_rfl
theorem f39_seg {R : Type} (P72 : (R : Type) → T72 R) (LO : LOT) (k : List V → Option R) (t5 : Tag) (a1 a2 a3 a4 : Int) (a6 : List Int) :
    pureBodyLK env (callsL env (tabOf [(72, w72 P72)]) spG (LOs [] LO) [] 40) 39 ((LOs [] LO) R 40 39) [.agg [.int .u8 a1, .int .u8 a2, .int .u8 a3, .int .u8 a4, .ints t5 .u8 a6]] k =
      f39T (P72 R) a1 a2 a3 a4 a6 (fun y0 y1 y2 y3 y4 => k [.agg [.int .i64 y0, .int .i64 y1, .int .i64 y2, .int .i64 y3, .ints .new .i64 y4]]) := by kernel_rfl
theorem f44L2_seg {R : Type} (LO : LOT) (g : St → Option R) (k : Ex → St → Option R) (t7 : Tag) (x4 : List Int) (x5 x6 : Int) :
    execL env (callsL env (tabOf []) spG (LOs [] LO) [] 40) 44 ((LOs [] LO) R 40 44) ((loopOf env 44 2).getD .skip) (qf44L20 t7 x4 x5 x6) (bodyK env 44 2 g k) =
      f44L2 x4 x5 (fun z0 z1 z2 z3 => k .ret (ef44L20 t7 x4 x5 z0 z1 z2 z3)) (fun z0 z1 => k (.exit 0) (ef44L21 t7 x4 x5 z0 z1)) (fun y0 => g (qf44L20 t7 x4 x5 y0)) x6 := by kernel_rfl
theorem f44_seg {R : Type} (Sf44L2 : (R : Type) → Tf44L2 R) (LO : LOT) (k : List V → Option R) (t1 : Tag) (a2 : List Int) (a3 : Int) :
    pureBodyLK env (callsL env (tabOf []) spG (LOs [smf44L2 Sf44L2 LO] LO) [] 40) 44 ((LOs [smf44L2 Sf44L2 LO] LO) R 40 44) [.ints t1 .i64 a2, .int .i64 a3] k =
      f44T (Sf44L2 R) a2 a3 (fun y0 => k [.int .i64 y0]) := by kernel_rfl
theorem f12L3_seg {R : Type} (LO : LOT) (g : St → Option R) (k : Ex → St → Option R) (t8 : Tag) (x4 : Int) (x5 : List Int) (x6 : Int) (x7 : List Bool) :
    execL env (callsL env (tabOf []) spG (LOs [] LO) [] 40) 12 ((LOs [] LO) R 40 12) ((loopOf env 12 3).getD .skip) (qf12L30 t8 x4 x5 x6 x7) (bodyK env 12 3 g k) =
      f12L3 x4 x5 (fun z0 z1 z2 => k (.exit 0) (ef12L30 t8 x4 x5 z0 z1 z2)) (fun y0 y1 => g (qf12L30 t8 x4 x5 y0 y1)) x6 x7 := by kernel_rfl
theorem f12_seg {R : Type} (Sf12L3 : (R : Type) → Tf12L3 R) (LO : LOT) (k : List V → Option R) (t2 : Tag) (a1 : Int) (a3 : List Int) :
    pureBodyLK env (callsL env (tabOf []) spG (LOs [smf12L3 Sf12L3 LO] LO) [] 40) 12 ((LOs [smf12L3 Sf12L3 LO] LO) R 40 12) [.int .i64 a1, .ints t2 .u8 a3] k =
      f12T (Sf12L3 R) a1 a3 (fun y0 => k [.bools .new y0]) := by kernel_rfl
theorem f14L4_seg {R : Type} (LO : LOT) (g : St → Option R) (k : Ex → St → Option R) (t8 t9 : Tag) (x5 x6 : List Bool) (x7 : Int) :
    execL env (callsL env (tabOf []) spG (LOs [] LO) [] 40) 14 ((LOs [] LO) R 40 14) ((loopOf env 14 4).getD .skip) (qf14L40 t8 t9 x5 x6 x7) (bodyK env 14 4 g k) =
      f14L4 x5 x6 (fun z0 z1 z2 z3 => k .ret (ef14L40 t8 t9 x5 x6 z0 z1 z2 z3)) (fun z0 z1 => k (.exit 0) (ef14L41 t8 t9 x5 x6 z0 z1)) (fun y0 => g (qf14L40 t8 t9 x5 x6 y0)) x7 := by kernel_rfl
theorem f14_seg {R : Type} (Sf14L4 : (R : Type) → Tf14L4 R) (LO : LOT) (k : List V → Option R) (t1 t3 : Tag) (a2 a4 : List Bool) :
    pureBodyLK env (callsL env (tabOf []) spG (LOs [smf14L4 Sf14L4 LO] LO) [] 40) 14 ((LOs [smf14L4 Sf14L4 LO] LO) R 40 14) [.bools t1 a2, .bools t3 a4] k =
      f14T (Sf14L4 R) a2 a4 (fun y0 => k [.bool y0]) := by kernel_rfl
theorem f90_seg {R : Type} (LO : LOT) (k : List V → Option R) (t5 : Tag) (a1 a2 a3 a4 : Int) (a6 : List Int) (a7 a8 a9 a10 a11 a12 : Int) :
    pureBodyLK env (callsL env (tabOf []) spG (LOs [] LO) [] 40) 90 ((LOs [] LO) R 40 90) [.agg [.int .i64 a1, .int .i64 a2, .int .i64 a3, .int .i64 a4, .ints t5 .i64 a6], .agg [.int .i64 a7, .int .i64 a8, .int .i64 a9, .int .i64 a10], .int .i64 a11, .int .i64 a12] k =
      f90T a1 a2 a3 a4 a6 a7 a8 a9 a10 a11 a12 (fun y0 => k [.bool y0]) := by kernel_rfl
theorem f91_seg {R : Type} (LO : LOT) (k : List V → Option R) (a1 a2 a3 a4 : Int) :
    pureBodyLK env (callsL env (tabOf []) spG (LOs [] LO) [] 40) 91 ((LOs [] LO) R 40 91) [.agg [.int .i64 a1, .int .i64 a2, .int .i64 a3, .int .i64 a4]] k =
      f91T a1 a2 a3 a4 (fun y0 => k [.bool y0]) := by kernel_rfl
theorem f92_seg {R : Type} (P90 : (R : Type) → T90 R) (LO : LOT) (k : List V → Option R) (t5 : Tag) (a1 a2 a3 a4 : Int) (a6 : List Int) (a7 a8 a9 a10 a11 a12 a13 a14 : Int) :
    pureBodyLK env (callsL env (tabOf [(90, w90 P90)]) spG (LOs [] LO) [] 40) 92 ((LOs [] LO) R 40 92) [.agg [.int .i64 a1, .int .i64 a2, .int .i64 a3, .int .i64 a4, .ints t5 .i64 a6], .agg [.int .i64 a7, .int .i64 a8, .int .i64 a9, .int .i64 a10], .agg [.int .i64 a11, .int .i64 a12, .int .i64 a13, .int .i64 a14]] k =
      f92T (P90 R) a1 a2 a3 a4 a6 a7 a8 a9 a10 a11 a12 a13 a14 (fun y0 => k [.bool y0]) := by kernel_rfl
theorem f77_seg {R : Type} (P90 : (R : Type) → T90 R) (P91 : (R : Type) → T91 R) (P92 : (R : Type) → T92 R) (LO : LOT) (k : List V → Option R) (t5 : Tag) (a1 a2 a3 a4 : Int) (a6 : List Int) (a7 a8 a9 a10 a11 a12 a13 a14 : Int) :
    pureBodyLK env (callsL env (tabOf [(90, w90 P90), (91, w91 P91), (92, w92 P92)]) spG (LOs [] LO) [] 40) 77 ((LOs [] LO) R 40 77) [.agg [.int .i64 a1, .int .i64 a2, .int .i64 a3, .int .i64 a4, .ints t5 .i64 a6], .agg [.int .i64 a7, .int .i64 a8, .int .i64 a9, .int .i64 a10], .agg [.int .i64 a11, .int .i64 a12, .int .i64 a13, .int .i64 a14]] k =
      f77T (P90 R) (P91 R) (P92 R) a1 a2 a3 a4 a6 a7 a8 a9 a10 a11 a12 a13 a14 (fun y0 => k [.bool y0]) := by kernel_rfl
theorem f48_seg {R : Type} (P41 : (R : Type) → T41 R) (P49 : (R : Type) → T49 R) (LO : LOT) (k : List V → Option R) (t5 : Tag) (a1 a2 a3 a4 : Int) (a6 : List Int) (a7 : Int) :
    pureBodyLK env (callsL env (tabOf [(41, w41 P41), (49, w49 P49)]) spG (LOs [] LO) [] 40) 48 ((LOs [] LO) R 40 48) [.agg [.int .i64 a1, .int .i64 a2, .int .i64 a3, .int .i64 a4, .ints t5 .i64 a6], .int .i64 a7] k =
      f48T (P41 R) (P49 R) a1 a2 a3 a4 a6 a7 (fun y0 y1 y2 y3 y4 => k [.agg [.int .i64 y0, .int .i64 y1, .int .i64 y2, .int .i64 y3, .int .i64 y4]]) := by kernel_rfl
theorem f45L4_seg {R : Type} (P41 : (R : Type) → T41 R) (P48 : (R : Type) → T48 R) (P77 : (R : Type) → T77 R) (LO : LOT) (g : St → Option R) (k : Ex → St → Option R) (t25 : Tag) (x14 x15 x16 x17 : Int) (x18 : List Int) (x20 x21 x22 x23 x24 x13 : Int) (x19 : List Int) :
    execL env (callsL env (tabOf [(41, w41 P41), (48, w48 P48), (77, w77 P77)]) spG (LOs [] LO) [] 40) 45 ((LOs [] LO) R 40 45) ((loopOf env 45 4).getD .skip) (qf45L40 t25 x13 x14 x15 x16 x17 x18 x19 x20 x21 x22 x23 x24) (bodyK env 45 4 g k) =
      f45L4 (P41 R) (P48 R) (P77 R) x14 x15 x16 x17 x18 x20 x21 x22 x23 x24 (fun z0 z1 z2 => k (.exit 0) (ef45L40 t25 z0 z1 x14 x15 x16 x17 x18 z2 x20 x21 x22 x23 x24)) (fun y0 y1 => g (qf45L40 t25 y0 x14 x15 x16 x17 x18 y1 x20 x21 x22 x23 x24)) x13 x19 := by kernel_rfl
theorem f45_seg {R : Type} (P41 : (R : Type) → T41 R) (P48 : (R : Type) → T48 R) (P77 : (R : Type) → T77 R) (Sf45L4 : (R : Type) → Tf45L4 R) (LO : LOT) (k : List V → Option R) (t5 : Tag) (a1 a2 a3 a4 : Int) (a6 : List Int) (a7 : Int) :
    pureBodyLK env (callsL env (tabOf [(41, w41 P41), (48, w48 P48), (77, w77 P77)]) spG (LOs [smf45L4 Sf45L4 LO] LO) [] 40) 45 ((LOs [smf45L4 Sf45L4 LO] LO) R 40 45) [.agg [.int .i64 a1, .int .i64 a2, .int .i64 a3, .int .i64 a4, .ints t5 .i64 a6], .int .i64 a7] k =
      f45T (P48 R) (Sf45L4 R) a1 a2 a3 a4 a6 a7 (fun y0 => k [.ints .new .i64 y0]) := by kernel_rfl
theorem f46_seg {R : Type} (P45 : (R : Type) → T45 R) (LO : LOT) (k : List V → Option R) (t5 : Tag) (a1 a2 a3 a4 : Int) (a6 : List Int) (a7 : Int) :
    pureBodyLK env (callsL env (tabOf [(45, w45 P45)]) spG (LOs [] LO) [] 40) 46 ((LOs [] LO) R 40 46) [.agg [.int .i64 a1, .int .i64 a2, .int .i64 a3, .int .i64 a4, .ints t5 .i64 a6], .int .i64 a7] k =
      f46T (P45 R) a1 a2 a3 a4 a6 a7 (fun y0 => k [.int .i64 y0]) := by kernel_rfl
theorem f81L5_seg {R : Type} (LO : LOT) (g : St → Option R) (k : Ex → St → Option R) (t9 : Tag) (x4 : Int) (x6 : List Bool) (x7 x5 x8 : Int) :
    execL env (callsL env (tabOf []) spG (LOs [] LO) [] 40) 81 ((LOs [] LO) R 40 81) ((loopOf env 81 5).getD .skip) (qf81L50 t9 x4 x5 x6 x7 x8) (bodyK env 81 5 g k) =
      f81L5 x4 x6 x7 (fun z0 z1 z2 => k (.exit 0) (ef81L50 t9 x4 z0 x6 x7 z1 z2)) (fun y0 y1 => g (qf81L50 t9 x4 y0 x6 x7 y1)) x5 x8 := by kernel_rfl
theorem f81_seg {R : Type} (Sf81L5 : (R : Type) → Tf81L5 R) (LO : LOT) (k : List V → Option R) (t2 : Tag) (a1 : Int) (a3 : List Bool) :
    pureBodyLK env (callsL env (tabOf []) spG (LOs [smf81L5 Sf81L5 LO] LO) [] 40) 81 ((LOs [smf81L5 Sf81L5 LO] LO) R 40 81) [.int .i64 a1, .bools t2 a3] k =
      f81T (Sf81L5 R) a1 a3 (fun y0 => k [.bool y0]) := by kernel_rfl
theorem f73_seg {R : Type} (LO : LOT) (k : List V → Option R) (t5 t7 : Tag) (a1 a2 a3 a4 : Int) (a6 a8 : List Int) (a9 a10 a11 a12 a13 : Int) :
    pureBodyLK env (callsL env (tabOf []) spG (LOs [] LO) [] 40) 73 ((LOs [] LO) R 40 73) [.agg [.int .i64 a1, .int .i64 a2, .int .i64 a3, .int .i64 a4, .ints t5 .i64 a6], .agg [.ints t7 .i64 a8, .int .i64 a9, .int .i64 a10, .int .i64 a11, .int .u64 a12], .int .i64 a13] k =
      f73T a1 a2 a3 a4 a6 a8 a9 a10 a11 a12 a13 (fun y0 => k [.bool y0]) := by kernel_rfl
theorem f74L3_seg {R : Type} (P41 : (R : Type) → T41 R) (P48 : (R : Type) → T48 R) (LO : LOT) (g : St → Option R) (k : Ex → St → Option R) (t14 : Tag) (x8 x9 x10 x11 : Int) (x12 : List Int) (x7 : Int) (x13 : List Int) :
    execL env (callsL env (tabOf [(41, w41 P41), (48, w48 P48)]) spG (LOs [] LO) [] 40) 74 ((LOs [] LO) R 40 74) ((loopOf env 74 3).getD .skip) (qf74L30 t14 x7 x8 x9 x10 x11 x12 x13) (bodyK env 74 3 g k) =
      f74L3 (P41 R) (P48 R) x8 x9 x10 x11 x12 (fun z0 z1 z2 => k (.exit 0) (ef74L30 t14 z0 z1 x8 x9 x10 x11 x12 z2)) (fun y0 y1 => g (qf74L30 t14 y0 x8 x9 x10 x11 x12 y1)) x7 x13 := by kernel_rfl
theorem f74_seg {R : Type} (P41 : (R : Type) → T41 R) (P48 : (R : Type) → T48 R) (Sf74L3 : (R : Type) → Tf74L3 R) (LO : LOT) (k : List V → Option R) (t5 : Tag) (a1 a2 a3 a4 : Int) (a6 : List Int) :
    pureBodyLK env (callsL env (tabOf [(41, w41 P41), (48, w48 P48)]) spG (LOs [smf74L3 Sf74L3 LO] LO) [] 40) 74 ((LOs [smf74L3 Sf74L3 LO] LO) R 40 74) [.agg [.int .i64 a1, .int .i64 a2, .int .i64 a3, .int .i64 a4, .ints t5 .i64 a6]] k =
      f74T (Sf74L3 R) a1 a2 a3 a4 a6 (fun y0 => k [.ints .new .i64 y0]) := by kernel_rfl
theorem f75L4_seg {R : Type} (P41 : (R : Type) → T41 R) (P48 : (R : Type) → T48 R) (P77 : (R : Type) → T77 R) (LO : LOT) (g : St → Option R) (k : Ex → St → Option R) (t25 : Tag) (x14 x15 x16 x17 : Int) (x18 : List Int) (x20 x21 x22 x23 x24 x13 : Int) (x19 : List Int) :
    execL env (callsL env (tabOf [(41, w41 P41), (48, w48 P48), (77, w77 P77)]) spG (LOs [] LO) [] 40) 75 ((LOs [] LO) R 40 75) ((loopOf env 75 4).getD .skip) (qf75L40 t25 x13 x14 x15 x16 x17 x18 x19 x20 x21 x22 x23 x24) (bodyK env 75 4 g k) =
      f75L4 (P41 R) (P48 R) (P77 R) x14 x15 x16 x17 x18 x20 x21 x22 x23 x24 (fun z0 z1 z2 => k (.exit 0) (ef75L40 t25 z0 z1 x14 x15 x16 x17 x18 z2 x20 x21 x22 x23 x24)) (fun y0 y1 => g (qf75L40 t25 y0 x14 x15 x16 x17 x18 y1 x20 x21 x22 x23 x24)) x13 x19 := by kernel_rfl
theorem f75_seg {R : Type} (P41 : (R : Type) → T41 R) (P48 : (R : Type) → T48 R) (P77 : (R : Type) → T77 R) (Sf75L4 : (R : Type) → Tf75L4 R) (LO : LOT) (k : List V → Option R) (t5 : Tag) (a1 a2 a3 a4 : Int) (a6 : List Int) (a7 : Int) :
    pureBodyLK env (callsL env (tabOf [(41, w41 P41), (48, w48 P48), (77, w77 P77)]) spG (LOs [smf75L4 Sf75L4 LO] LO) [] 40) 75 ((LOs [smf75L4 Sf75L4 LO] LO) R 40 75) [.agg [.int .i64 a1, .int .i64 a2, .int .i64 a3, .int .i64 a4, .ints t5 .i64 a6], .int .i64 a7] k =
      f75T (P48 R) (Sf75L4 R) a1 a2 a3 a4 a6 a7 (fun y0 => k [.ints .new .i64 y0]) := by kernel_rfl
theorem f76L7_seg {R : Type} (P44 : (R : Type) → T44 R) (P45 : (R : Type) → T45 R) (P46 : (R : Type) → T46 R) (P48 : (R : Type) → T48 R) (LO : LOT) (g : St → Option R) (k : Ex → St → Option R) (t27 t28 t29 : Tag) (x19 x20 x21 x22 : Int) (x23 : List Int) (x24 : Int) (x25 x26 : List Int) (x18 : Int) :
    execL env (callsL env (tabOf [(44, w44 P44), (45, w45 P45), (46, w46 P46), (48, w48 P48)]) spG (LOs [] LO) [] 40) 76 ((LOs [] LO) R 40 76) ((loopOf env 76 7).getD .skip) (qf76L70 t27 t28 t29 x18 x19 x20 x21 x22 x23 x24 x25 x26) (bodyK env 76 7 g k) =
      f76L7 (P44 R) (P45 R) x19 x20 x21 x22 x23 x24 x25 x26 (fun z0 z1 z2 z3 => k .ret (ef76L70 t27 t28 t29 z0 z1 z2 z3 x19 x20 x21 x22 x23 x24 x25 x26)) (fun z0 z1 z2 z3 z4 => k .ret (ef76L71 t27 t28 t29 z0 z1 z2 z3 x19 x20 x21 x22 x23 x24 x25 x26 z4)) (fun z0 z1 => k (.exit 0) (ef76L72 t27 t28 t29 z0 z1 x19 x20 x21 x22 x23 x24 x25 x26)) (fun y0 => g (qf76L70 t27 t28 t29 y0 x19 x20 x21 x22 x23 x24 x25 x26)) x18 := by kernel_rfl
theorem f76_seg {R : Type} (P44 : (R : Type) → T44 R) (P45 : (R : Type) → T45 R) (P46 : (R : Type) → T46 R) (P48 : (R : Type) → T48 R) (Sf76L7 : (R : Type) → Tf76L7 R) (LO : LOT) (k : List V → Option R) (t5 t8 t10 : Tag) (a1 a2 a3 a4 : Int) (a6 : List Int) (a7 : Int) (a9 a11 : List Int) :
    pureBodyLK env (callsL env (tabOf [(44, w44 P44), (45, w45 P45), (46, w46 P46), (48, w48 P48)]) spG (LOs [smf76L7 Sf76L7 LO] LO) [] 40) 76 ((LOs [smf76L7 Sf76L7 LO] LO) R 40 76) [.agg [.int .i64 a1, .int .i64 a2, .int .i64 a3, .int .i64 a4, .ints t5 .i64 a6], .agg [.int .i64 a7, .ints t8 .i64 a9, .ints t10 .i64 a11]] k =
      f76T (P46 R) (P48 R) (Sf76L7 R) a1 a2 a3 a4 a6 a7 a9 a11 (fun y0 => k [.bool y0]) := by kernel_rfl
theorem f43L4_seg {R : Type} (P41 : (R : Type) → T41 R) (P44 : (R : Type) → T44 R) (P73 : (R : Type) → T73 R) (P76 : (R : Type) → T76 R) (LO : LOT) (g : St → Option R) (k : Ex → St → Option R) (t31 t32 t33 t34 t35 t36 t37 : Tag) (x20 x21 x22 : List V) (x23 : List Int) (x24 x25 x26 x27 : Int) (x28 x29 : List Int) (x30 : List V) (x19 : Int) :
    execL env (callsL env (tabOf [(41, w41 P41), (44, w44 P44), (73, w73 P73), (76, w76 P76)]) spG (LOs [] LO) [] 40) 43 ((LOs [] LO) R 40 43) ((loopOf env 43 4).getD .skip) (qf43L40 t31 t32 t33 t34 t35 t36 t37 x19 x20 x21 x22 x23 x24 x25 x26 x27 x28 x29 x30) (bodyK env 43 4 g k) =
      f43L4 (P44 R) (P73 R) x20 x21 x22 x23 x24 x25 x26 x27 x28 x29 x30 (fun z0 z1 z2 z3 => k .ret (ef43L40 t31 t32 t33 t34 t35 t36 t37 z0 z1 z2 z3 x20 x21 x22 x23 x24 x25 x26 x27 x28 x29 x30)) (fun z0 z1 => k (.exit 0) (ef43L41 t31 t32 t33 t34 t35 t36 t37 z0 z1 x20 x21 x22 x23 x24 x25 x26 x27 x28 x29 x30)) (fun y0 => g (qf43L40 t31 t32 t33 t34 t35 t36 t37 y0 x20 x21 x22 x23 x24 x25 x26 x27 x28 x29 x30)) x19 := by kernel_rfl
theorem f43L15_seg {R : Type} (P41 : (R : Type) → T41 R) (P44 : (R : Type) → T44 R) (P73 : (R : Type) → T73 R) (P76 : (R : Type) → T76 R) (LO : LOT) (g : St → Option R) (k : Ex → St → Option R) (t70 t71 t72 : Tag) (x60 x62 x63 x64 x65 : Int) (x66 x67 : List Int) (x68 : List V) (x61 : Int) (x69 : List Bool) :
    execL env (callsL env (tabOf [(41, w41 P41), (44, w44 P44), (73, w73 P73), (76, w76 P76)]) spG (LOs [] LO) [] 40) 43 ((LOs [] LO) R 40 43) ((loopOf env 43 15).getD .skip) (qf43L150 t70 t71 t72 x60 x61 x62 x63 x64 x65 x66 x67 x68 x69) (bodyK env 43 15 g k) =
      f43L15 x60 x62 x63 x64 x65 x66 x67 x68 (fun z0 z1 z2 z3 z4 => k .ret (ef43L150 t70 t71 t72 z0 x60 z1 z2 z3 x62 x63 x64 x65 x66 x67 x68 z4)) (fun z0 z1 z2 => k (.exit 4) (ef43L151 t70 t71 t72 x60 z0 z1 x62 x63 x64 x65 x66 x67 x68 z2)) (fun y0 y1 => g (qf43L150 t70 t71 t72 x60 y0 x62 x63 x64 x65 x66 x67 x68 y1)) x61 x69 := by kernel_rfl
theorem f43L10_seg {R : Type} (P41 : (R : Type) → T41 R) (P44 : (R : Type) → T44 R) (P73 : (R : Type) → T73 R) (P76 : (R : Type) → T76 R) (Sf43L15 : (R : Type) → Tf43L15 R) (LO : LOT) (g : St → Option R) (k : Ex → St → Option R) (t56 t57 t58 : Tag) (x48 x49 x50 x51 : Int) (x52 x53 : List Int) (x54 : List V) (x47 : Int) (x55 : List Bool) :
    execL env (callsL env (tabOf [(41, w41 P41), (44, w44 P44), (73, w73 P73), (76, w76 P76)]) spG (LOs [smf43L15 Sf43L15 LO] LO) [] 40) 43 ((LOs [smf43L15 Sf43L15 LO] LO) R 40 43) ((loopOf env 43 10).getD .skip) (qf43L100 t56 t57 t58 x47 x48 x49 x50 x51 x52 x53 x54 x55) (bodyK env 43 10 g k) =
      f43L10 (P76 R) (Sf43L15 R) x48 x49 x50 x51 x52 x53 x54 (fun z0 z1 z2 z3 z4 => k .ret (ef43L100 t56 t57 t58 z0 z1 z2 z3 x48 x49 x50 x51 x52 x53 x54 z4)) (fun z0 z1 z2 z3 z4 z5 => k .ret (ef43L101 t56 t57 t58 z0 z1 z2 z3 z4 x48 x49 x50 x51 x52 x53 x54 z5)) (fun z0 z1 z2 => k (.exit 2) (ef43L102 t56 t57 t58 z0 z1 x48 x49 x50 x51 x52 x53 x54 z2)) (fun y0 y1 => g (qf43L100 t56 t57 t58 y0 x48 x49 x50 x51 x52 x53 x54 y1)) x47 x55 := by kernel_rfl
theorem f43_seg {R : Type} (P41 : (R : Type) → T41 R) (P44 : (R : Type) → T44 R) (P73 : (R : Type) → T73 R) (P76 : (R : Type) → T76 R) (Sf43L4 : (R : Type) → Tf43L4 R) (Sf43L10 : (R : Type) → Tf43L10 R) (LO : LOT) (k : List V → Option R) (t1 t3 t5 t7 t13 t15 t17 : Tag) (a2 a4 a6 : List V) (a8 : List Int) (a9 a10 a11 a12 : Int) (a14 a16 : List Int) (a18 : List V) :
    pureBodyLK env (callsL env (tabOf [(41, w41 P41), (44, w44 P44), (73, w73 P73), (76, w76 P76)]) spG (LOs [smf43L4 Sf43L4 LO, smf43L10 Sf43L10 LO] LO) [] 40) 43 ((LOs [smf43L4 Sf43L4 LO, smf43L10 Sf43L10 LO] LO) R 40 43) [.agg [.vals t1 151 a2, .vals t3 120 a4, .vals t5 151 a6, .ints t7 .i64 a8], .agg [.int .i64 a9, .int .i64 a10, .int .i64 a11, .int .i64 a12, .ints t13 .i64 a14], .agg [.ints t15 .i64 a16, .vals t17 115 a18]] k =
      f43T (P41 R) (Sf43L4 R) (Sf43L10 R) a2 a4 a6 a8 a9 a10 a11 a12 a14 a16 a18 (fun y0 => k [.bool y0]) := by kernel_rfl
theorem f42L4_seg {R : Type} (P44 : (R : Type) → T44 R) (P74 : (R : Type) → T74 R) (P75 : (R : Type) → T75 R) (LO : LOT) (g : St → Option R) (k : Ex → St → Option R) (t27 t28 t29 : Tag) (x12 : List Bool) (x13 : List Int) (x15 x16 x17 x18 : Int) (x19 : List Int) (x20 : Int) (x21 x22 x23 : List Int) (x24 x14 : Int) (x25 x26 : List Int) :
    execL env (callsL env (tabOf [(44, w44 P44), (74, w74 P74), (75, w75 P75)]) spG (LOs [] LO) [] 40) 42 ((LOs [] LO) R 40 42) ((loopOf env 42 4).getD .skip) (qf42L40 t27 t28 t29 x12 x13 x14 x15 x16 x17 x18 x19 x20 x21 x22 x23 x24 x25 x26) (bodyK env 42 4 g k) =
      f42L4 (P44 R) (P75 R) x12 x13 x15 x16 x17 x18 x19 x20 x21 x22 x23 x24 (fun z0 z1 z2 z3 => k (.exit 0) (ef42L40 t27 t28 t29 x12 x13 z0 z1 x15 x16 x17 x18 x19 x20 x21 x22 x23 x24 z2 z3)) (fun y0 y1 y2 => g (qf42L40 t27 t28 t29 x12 x13 y0 x15 x16 x17 x18 x19 x20 x21 x22 x23 x24 y1 y2)) x14 x25 x26 := by kernel_rfl
theorem f42_seg {R : Type} (P44 : (R : Type) → T44 R) (P74 : (R : Type) → T74 R) (P75 : (R : Type) → T75 R) (Sf42L4 : (R : Type) → Tf42L4 R) (LO : LOT) (k : List V → Option R) (t5 t7 t9 : Tag) (a1 a2 a3 a4 : Int) (a6 : List Int) (a8 : List Bool) (a10 : List Int) :
    pureBodyLK env (callsL env (tabOf [(44, w44 P44), (74, w74 P74), (75, w75 P75)]) spG (LOs [smf42L4 Sf42L4 LO] LO) [] 40) 42 ((LOs [smf42L4 Sf42L4 LO] LO) R 40 42) [.agg [.int .i64 a1, .int .i64 a2, .int .i64 a3, .int .i64 a4, .ints t5 .i64 a6], .bools t7 a8, .ints t9 .u8 a10] k =
      f42T (P74 R) (Sf42L4 R) a1 a2 a3 a4 a6 a8 a10 (fun y0 y1 y2 => k [.agg [.int .i64 y0, .ints .new .i64 y1, .ints .new .i64 y2]]) := by kernel_rfl
end Go.Vm.T3
