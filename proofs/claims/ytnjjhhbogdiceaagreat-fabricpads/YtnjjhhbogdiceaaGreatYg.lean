/-
  A part of the proof that FabricPads answers true at every input. No condition.
-/
import Derived.Test.YtnjjhhbogdiceaaGreatYf
set_option linter.unusedVariables false
set_option maxRecDepth 100000
namespace Go.Vm.T3
open Go Go.Vm
abbrev T32 (R : Type) := Int → Int → Int → Int → List Int → List Int → List Int → List Int → List Int → List Int → List V → List Bool → (List Bool → Option R) → Option R
abbrev Tf27L3of32 (R : Type) := List Int → Int → Int → Int → Int → Int → List Int → List Int → List Int → List Int → List Int → List Int → List V → List Bool → Int → Int → Int → Int → List Int → List Int → List Int → List Int → List Int → List Int → List V → Int → Int → Int → Int → List Int → List Int → List Int → List Int → List Int → List Int → List V → List Bool → Int → List V → List Int → List Int → (Int → Bool → List V → List Int → List Int → Option R) → Option R
noncomputable def f27L3of32 {R : Type} (p36 : T36 R) (p50 : T50 R) (x21 : List Int) (x22 x24 x25 x26 x27 : Int) (x28 x29 x30 x31 x32 x33 : List Int) (x34 : List V) (x35 : List Bool) (x36 x37 x38 x39 : Int) (x40 x41 x42 x43 x44 x45 : List Int) (x46 : List V) (x47 x48 x49 x50 : Int) (x51 x52 x53 x54 x55 x59 : List Int) (x60 : List V) (x61 : List Bool) (k0 : Int → Bool → List V → List Int → List Int → Option R) (g0 : Int → List V → List Int → List Int → Option R) (x23 : Int) (x56 : List V) (x57 x58 : List Int) : Option R :=
 bif (ltI x23 x22) then
  gd (inR x23 x21.length) <|
  p50 x47 x48 x49 x50 x51 x23 (fun y82 y83 y84 y85 y86 =>
   gd (okL (x56 ++ [(V.agg [.int .i64 y82, .int .i64 y83, .int .i64 y84, .int .i64 y85])]).length) <|
   bif (eqI y82 1) then
    gd (okL (x57 ++ [x23]).length) <|
    bif (ltI 0 (List.getD x21 (Int.toNat x23) 0)) then
     p36 x47 x48 x49 x50 x51 x23 (fun y87 =>
      gd (inR (subI .i64 (List.getD x21 (Int.toNat x23) 0) 1) y87.length) <|
      gd (okL (x58 ++ [(List.getD y87 (Int.toNat (subI .i64 (List.getD x21 (Int.toNat x23) 0) 1)) 0)]).length) <|
      g0 (addI .i64 x23 1) (x56 ++ [(V.agg [.int .i64 y82, .int .i64 y83, .int .i64 y84, .int .i64 y85])]) (x57 ++ [x23]) (x58 ++ [(List.getD y87 (Int.toNat (subI .i64 (List.getD x21 (Int.toNat x23) 0) 1)) 0)]))
    else
    gd (okL (x58 ++ [(-1)]).length) <|
    g0 (addI .i64 x23 1) (x56 ++ [(V.agg [.int .i64 y82, .int .i64 y83, .int .i64 y84, .int .i64 y85])]) (x57 ++ [x23]) (x58 ++ [(-1)])
   else
   bif (ltI 0 (List.getD x21 (Int.toNat x23) 0)) then
    p36 x47 x48 x49 x50 x51 x23 (fun y88 =>
     gd (inR (subI .i64 (List.getD x21 (Int.toNat x23) 0) 1) y88.length) <|
     gd (okL (x58 ++ [(List.getD y88 (Int.toNat (subI .i64 (List.getD x21 (Int.toNat x23) 0) 1)) 0)]).length) <|
     g0 (addI .i64 x23 1) (x56 ++ [(V.agg [.int .i64 y82, .int .i64 y83, .int .i64 y84, .int .i64 y85])]) x57 (x58 ++ [(List.getD y88 (Int.toNat (subI .i64 (List.getD x21 (Int.toNat x23) 0) 1)) 0)]))
   else
   gd (okL (x58 ++ [(-1)]).length) <|
   g0 (addI .i64 x23 1) (x56 ++ [(V.agg [.int .i64 y82, .int .i64 y83, .int .i64 y84, .int .i64 y85])]) x57 (x58 ++ [(-1)]))
 else
 k0 x23 (ltI x23 x22) x56 x57 x58
noncomputable def f32T {R : Type} (p61 : T61 R) (sf27L3of32 : Tf27L3of32 R) (a1 a2 a3 a4 : Int) (a6 a8 a10 a12 a14 a16 : List Int) (a18 : List V) (a20 : List Bool) (kr : List Bool → Option R) : Option R :=
 sf27L3of32 a8 (lenI a8.length) a1 a2 a3 a4 a6 a8 a10 a12 a14 a16 a18 [] a1 a2 a3 a4 a6 a8 a10 a12 a14 a16 a18 a1 a2 a3 a4 a6 a8 a10 a12 a14 [] [] [] 0 [] [] [] (fun z89 z90 z91 z92 z93 =>
  p61 a8 a10 a12 a14 z91 z92 z93 a16 a18 a20 (fun y94 =>
   kr y94))
noncomputable def f27L3of32S {R : Type} (M : Nat) (x21 : List Int) (x22 x24 x25 x26 x27 : Int) (x28 x29 x30 x31 x32 x33 : List Int) (x34 : List V) (x35 : List Bool) (x36 x37 x38 x39 : Int) (x40 x41 x42 x43 x44 x45 : List Int) (x46 : List V) (x47 x48 x49 x50 : Int) (x51 x52 x53 x54 x55 x59 : List Int) (x60 : List V) (x61 : List Bool) (x23 : Int) (x56 : List V) (x57 x58 : List Int) (k0 : Int → Bool → List V → List Int → List Int → Option R) : Option R :=
  rounds (fun (g : Int × (List V) × (List Int) × (List Int) → Option R) (a : Int × (List V) × (List Int) × (List Int)) => f27L3of32 (f36 M) (f50 M) x21 x22 x24 x25 x26 x27 x28 x29 x30 x31 x32 x33 x34 x35 x36 x37 x38 x39 x40 x41 x42 x43 x44 x45 x46 x47 x48 x49 x50 x51 x52 x53 x54 x55 x59 x60 x61 k0 (fun y0 y1 y2 y3 => g (y0, y1, y2, y3)) a.1 a.2.1 a.2.2.1 a.2.2.2) M (x23, x56, x57, x58)
noncomputable def f32 {R : Type} (M : Nat) (a1 a2 a3 a4 : Int) (a6 a8 a10 a12 a14 a16 : List Int) (a18 : List V) (a20 : List Bool) (kr : List Bool → Option R) : Option R :=
  f32T (f61 M) (f27L3of32S M) a1 a2 a3 a4 a6 a8 a10 a12 a14 a16 a18 a20 kr
abbrev T11 (R : Type) := Int → Int → Int → Int → List Int → List Int → List Int → List Int → List Int → List Int → List Int → List V → List Bool → (List Bool → Option R) → Option R
noncomputable def f11T {R : Type} (p32 : T32 R) (a1 a2 a3 a4 : Int) (a6 a8 a10 a12 a14 a16 a18 : List Int) (a20 : List V) (a22 : List Bool) (kr : List Bool → Option R) : Option R :=
 p32 a1 a2 a3 a4 a6 a8 a10 a12 a14 a18 a20 a22 (fun y23 =>
  kr y23)
noncomputable def f11 {R : Type} (M : Nat) (a1 a2 a3 a4 : Int) (a6 a8 a10 a12 a14 a16 a18 : List Int) (a20 : List V) (a22 : List Bool) (kr : List Bool → Option R) : Option R :=
  f11T (f32 M) a1 a2 a3 a4 a6 a8 a10 a12 a14 a16 a18 a20 a22 kr
abbrev T88 (R : Type) := Int → Int → (Bool → Option R) → Option R
noncomputable def f88T {R : Type} (a1 a2 : Int) (kr : Bool → Option R) : Option R :=
 gd (posI a2) <|
 kr (eqI (andI .i64 (shrI .i64 a1 a2) 1) 1)
noncomputable def f88 {R : Type} (M : Nat) (a1 a2 : Int) (kr : Bool → Option R) : Option R :=
  f88T a1 a2 kr
abbrev T70 (R : Type) := List V → List V → List V → List Int → List Int → List V → List V → List Bool → (List Bool → Option R) → Option R
abbrev Tf70L3 (R : Type) := List V → List Bool → List V → Int → List Int → List V → Int → List Bool → (Int → Bool → List Bool → Option R) → Option R
noncomputable def f70L3 {R : Type} (p88 : T88 R) (x17 : List V) (x18 : List Bool) (x19 : List V) (x20 : Int) (x22 : List Int) (x23 : List V) (k0 : Int → Bool → List Bool → Option R) (g0 : Int → List Bool → Option R) (x21 : Int) (x24 : List Bool) : Option R :=
 bif (ltI x21 x20) then
  gd (inR x21 x19.length) <|
  bif (eqI (V.toInt (V.cell (List.getD x19 (Int.toNat x21) .undef) 0)) 1) then
   bif (ltI (V.toInt (V.cell (List.getD x19 (Int.toNat x21) .undef) 1)) (lenI x22.length)) then
    gd (inR (V.toInt (V.cell (List.getD x19 (Int.toNat x21) .undef) 1)) x22.length) <|
    p88 (List.getD x22 (Int.toNat (V.toInt (V.cell (List.getD x19 (Int.toNat x21) .undef) 1))) 0) (V.toInt (V.cell (List.getD x19 (Int.toNat x21) .undef) 2)) (fun y30 =>
     gd (inR x21 x24.length) <|
     g0 (addI .i64 x21 1) (List.set x24 (Int.toNat x21) y30))
   else
   bif (eqI (V.toInt (V.cell (List.getD x19 (Int.toNat x21) .undef) 0)) 2) then
    bif (ltI (V.toInt (V.cell (List.getD x19 (Int.toNat x21) .undef) 1)) (lenI x17.length)) then
     gd (inR (V.toInt (V.cell (List.getD x19 (Int.toNat x21) .undef) 1)) x17.length) <|
     bif (V.toBool (V.cell (List.getD x17 (Int.toNat (V.toInt (V.cell (List.getD x19 (Int.toNat x21) .undef) 1))) .undef) 0)) then
      gd (inR (V.toInt (V.cell (List.getD x19 (Int.toNat x21) .undef) 1)) x17.length) <|
      p88 (V.toInt (V.cell (List.getD x17 (Int.toNat (V.toInt (V.cell (List.getD x19 (Int.toNat x21) .undef) 1))) .undef) 1)) (V.toInt (V.cell (List.getD x19 (Int.toNat x21) .undef) 2)) (fun y31 =>
       gd (inR x21 x24.length) <|
       g0 (addI .i64 x21 1) (List.set x24 (Int.toNat x21) y31))
     else
     gd (inR x21 x24.length) <|
     g0 (addI .i64 x21 1) (List.set x24 (Int.toNat x21) false)
    else
    bif (eqI (V.toInt (V.cell (List.getD x19 (Int.toNat x21) .undef) 0)) 3) then
     bif (ltI (V.toInt (V.cell (List.getD x19 (Int.toNat x21) .undef) 1)) (lenI x17.length)) then
      gd (inR (V.toInt (V.cell (List.getD x19 (Int.toNat x21) .undef) 1)) x17.length) <|
      gd (inR x21 x24.length) <|
      g0 (addI .i64 x21 1) (List.set x24 (Int.toNat x21) (V.toBool (V.cell (List.getD x17 (Int.toNat (V.toInt (V.cell (List.getD x19 (Int.toNat x21) .undef) 1))) .undef) 0)))
     else
     bif (eqI (V.toInt (V.cell (List.getD x19 (Int.toNat x21) .undef) 0)) 4) then
      bif (ltI (V.toInt (V.cell (List.getD x19 (Int.toNat x21) .undef) 1)) (lenI x18.length)) then
       gd (inR (V.toInt (V.cell (List.getD x19 (Int.toNat x21) .undef) 1)) x18.length) <|
       gd (inR x21 x24.length) <|
       g0 (addI .i64 x21 1) (List.set x24 (Int.toNat x21) (List.getD x18 (Int.toNat (V.toInt (V.cell (List.getD x19 (Int.toNat x21) .undef) 1))) false))
      else
      g0 (addI .i64 x21 1) x24
     else
     g0 (addI .i64 x21 1) x24
    else
    bif (eqI (V.toInt (V.cell (List.getD x19 (Int.toNat x21) .undef) 0)) 4) then
     bif (ltI (V.toInt (V.cell (List.getD x19 (Int.toNat x21) .undef) 1)) (lenI x18.length)) then
      gd (inR (V.toInt (V.cell (List.getD x19 (Int.toNat x21) .undef) 1)) x18.length) <|
      gd (inR x21 x24.length) <|
      g0 (addI .i64 x21 1) (List.set x24 (Int.toNat x21) (List.getD x18 (Int.toNat (V.toInt (V.cell (List.getD x19 (Int.toNat x21) .undef) 1))) false))
     else
     g0 (addI .i64 x21 1) x24
    else
    g0 (addI .i64 x21 1) x24
   else
   bif (eqI (V.toInt (V.cell (List.getD x19 (Int.toNat x21) .undef) 0)) 3) then
    bif (ltI (V.toInt (V.cell (List.getD x19 (Int.toNat x21) .undef) 1)) (lenI x17.length)) then
     gd (inR (V.toInt (V.cell (List.getD x19 (Int.toNat x21) .undef) 1)) x17.length) <|
     gd (inR x21 x24.length) <|
     g0 (addI .i64 x21 1) (List.set x24 (Int.toNat x21) (V.toBool (V.cell (List.getD x17 (Int.toNat (V.toInt (V.cell (List.getD x19 (Int.toNat x21) .undef) 1))) .undef) 0)))
    else
    bif (eqI (V.toInt (V.cell (List.getD x19 (Int.toNat x21) .undef) 0)) 4) then
     bif (ltI (V.toInt (V.cell (List.getD x19 (Int.toNat x21) .undef) 1)) (lenI x18.length)) then
      gd (inR (V.toInt (V.cell (List.getD x19 (Int.toNat x21) .undef) 1)) x18.length) <|
      gd (inR x21 x24.length) <|
      g0 (addI .i64 x21 1) (List.set x24 (Int.toNat x21) (List.getD x18 (Int.toNat (V.toInt (V.cell (List.getD x19 (Int.toNat x21) .undef) 1))) false))
     else
     g0 (addI .i64 x21 1) x24
    else
    g0 (addI .i64 x21 1) x24
   else
   bif (eqI (V.toInt (V.cell (List.getD x19 (Int.toNat x21) .undef) 0)) 4) then
    bif (ltI (V.toInt (V.cell (List.getD x19 (Int.toNat x21) .undef) 1)) (lenI x18.length)) then
     gd (inR (V.toInt (V.cell (List.getD x19 (Int.toNat x21) .undef) 1)) x18.length) <|
     gd (inR x21 x24.length) <|
     g0 (addI .i64 x21 1) (List.set x24 (Int.toNat x21) (List.getD x18 (Int.toNat (V.toInt (V.cell (List.getD x19 (Int.toNat x21) .undef) 1))) false))
    else
    g0 (addI .i64 x21 1) x24
   else
   g0 (addI .i64 x21 1) x24
  else
  bif (eqI (V.toInt (V.cell (List.getD x19 (Int.toNat x21) .undef) 0)) 2) then
   bif (ltI (V.toInt (V.cell (List.getD x19 (Int.toNat x21) .undef) 1)) (lenI x17.length)) then
    gd (inR (V.toInt (V.cell (List.getD x19 (Int.toNat x21) .undef) 1)) x17.length) <|
    bif (V.toBool (V.cell (List.getD x17 (Int.toNat (V.toInt (V.cell (List.getD x19 (Int.toNat x21) .undef) 1))) .undef) 0)) then
     gd (inR (V.toInt (V.cell (List.getD x19 (Int.toNat x21) .undef) 1)) x17.length) <|
     p88 (V.toInt (V.cell (List.getD x17 (Int.toNat (V.toInt (V.cell (List.getD x19 (Int.toNat x21) .undef) 1))) .undef) 1)) (V.toInt (V.cell (List.getD x19 (Int.toNat x21) .undef) 2)) (fun y32 =>
      gd (inR x21 x24.length) <|
      g0 (addI .i64 x21 1) (List.set x24 (Int.toNat x21) y32))
    else
    gd (inR x21 x24.length) <|
    g0 (addI .i64 x21 1) (List.set x24 (Int.toNat x21) false)
   else
   bif (eqI (V.toInt (V.cell (List.getD x19 (Int.toNat x21) .undef) 0)) 3) then
    bif (ltI (V.toInt (V.cell (List.getD x19 (Int.toNat x21) .undef) 1)) (lenI x17.length)) then
     gd (inR (V.toInt (V.cell (List.getD x19 (Int.toNat x21) .undef) 1)) x17.length) <|
     gd (inR x21 x24.length) <|
     g0 (addI .i64 x21 1) (List.set x24 (Int.toNat x21) (V.toBool (V.cell (List.getD x17 (Int.toNat (V.toInt (V.cell (List.getD x19 (Int.toNat x21) .undef) 1))) .undef) 0)))
    else
    bif (eqI (V.toInt (V.cell (List.getD x19 (Int.toNat x21) .undef) 0)) 4) then
     bif (ltI (V.toInt (V.cell (List.getD x19 (Int.toNat x21) .undef) 1)) (lenI x18.length)) then
      gd (inR (V.toInt (V.cell (List.getD x19 (Int.toNat x21) .undef) 1)) x18.length) <|
      gd (inR x21 x24.length) <|
      g0 (addI .i64 x21 1) (List.set x24 (Int.toNat x21) (List.getD x18 (Int.toNat (V.toInt (V.cell (List.getD x19 (Int.toNat x21) .undef) 1))) false))
     else
     g0 (addI .i64 x21 1) x24
    else
    g0 (addI .i64 x21 1) x24
   else
   bif (eqI (V.toInt (V.cell (List.getD x19 (Int.toNat x21) .undef) 0)) 4) then
    bif (ltI (V.toInt (V.cell (List.getD x19 (Int.toNat x21) .undef) 1)) (lenI x18.length)) then
     gd (inR (V.toInt (V.cell (List.getD x19 (Int.toNat x21) .undef) 1)) x18.length) <|
     gd (inR x21 x24.length) <|
     g0 (addI .i64 x21 1) (List.set x24 (Int.toNat x21) (List.getD x18 (Int.toNat (V.toInt (V.cell (List.getD x19 (Int.toNat x21) .undef) 1))) false))
    else
    g0 (addI .i64 x21 1) x24
   else
   g0 (addI .i64 x21 1) x24
  else
  bif (eqI (V.toInt (V.cell (List.getD x19 (Int.toNat x21) .undef) 0)) 3) then
   bif (ltI (V.toInt (V.cell (List.getD x19 (Int.toNat x21) .undef) 1)) (lenI x17.length)) then
    gd (inR (V.toInt (V.cell (List.getD x19 (Int.toNat x21) .undef) 1)) x17.length) <|
    gd (inR x21 x24.length) <|
    g0 (addI .i64 x21 1) (List.set x24 (Int.toNat x21) (V.toBool (V.cell (List.getD x17 (Int.toNat (V.toInt (V.cell (List.getD x19 (Int.toNat x21) .undef) 1))) .undef) 0)))
   else
   bif (eqI (V.toInt (V.cell (List.getD x19 (Int.toNat x21) .undef) 0)) 4) then
    bif (ltI (V.toInt (V.cell (List.getD x19 (Int.toNat x21) .undef) 1)) (lenI x18.length)) then
     gd (inR (V.toInt (V.cell (List.getD x19 (Int.toNat x21) .undef) 1)) x18.length) <|
     gd (inR x21 x24.length) <|
     g0 (addI .i64 x21 1) (List.set x24 (Int.toNat x21) (List.getD x18 (Int.toNat (V.toInt (V.cell (List.getD x19 (Int.toNat x21) .undef) 1))) false))
    else
    g0 (addI .i64 x21 1) x24
   else
   g0 (addI .i64 x21 1) x24
  else
  bif (eqI (V.toInt (V.cell (List.getD x19 (Int.toNat x21) .undef) 0)) 4) then
   bif (ltI (V.toInt (V.cell (List.getD x19 (Int.toNat x21) .undef) 1)) (lenI x18.length)) then
    gd (inR (V.toInt (V.cell (List.getD x19 (Int.toNat x21) .undef) 1)) x18.length) <|
    gd (inR x21 x24.length) <|
    g0 (addI .i64 x21 1) (List.set x24 (Int.toNat x21) (List.getD x18 (Int.toNat (V.toInt (V.cell (List.getD x19 (Int.toNat x21) .undef) 1))) false))
   else
   g0 (addI .i64 x21 1) x24
  else
  g0 (addI .i64 x21 1) x24
 else
 k0 x21 (ltI x21 x20) x24
noncomputable def f70T {R : Type} (sf70L3 : Tf70L3 R) (a2 a4 a6 : List V) (a8 a10 : List Int) (a12 a14 : List V) (a16 : List Bool) (kr : List Bool → Option R) : Option R :=
 gd (inS 0 (lenI a2.length) lim) <|
 sf70L3 a14 a16 a2 (lenI a2.length) a10 a12 0 (List.replicate (Int.toNat (lenI a2.length)) false) (fun z33 z34 z35 =>
  kr z35)
noncomputable def f70L3S {R : Type} (M : Nat) (x17 : List V) (x18 : List Bool) (x19 : List V) (x20 : Int) (x22 : List Int) (x23 : List V) (x21 : Int) (x24 : List Bool) (k0 : Int → Bool → List Bool → Option R) : Option R :=
  rounds (fun (g : Int × (List Bool) → Option R) (a : Int × (List Bool)) => f70L3 (f88 M) x17 x18 x19 x20 x22 x23 k0 (fun y0 y1 => g (y0, y1)) a.1 a.2) M (x21, x24)
noncomputable def f70 {R : Type} (M : Nat) (a2 a4 a6 : List V) (a8 a10 : List Int) (a12 a14 : List V) (a16 : List Bool) (kr : List Bool → Option R) : Option R :=
  f70T (f70L3S M) a2 a4 a6 a8 a10 a12 a14 a16 kr
abbrev T21 (R : Type) := List Int → List Int → (Bool → Option R) → Option R
abbrev Tf21L4 (R : Type) := List Int → List Int → Int → (Bool → Int → Bool → Bool → Option R) → (Int → Bool → Option R) → Option R
noncomputable def f21L4 {R : Type} (x5 x6 : List Int) (k0 : Bool → Int → Bool → Bool → Option R) (k1 : Int → Bool → Option R) (g0 : Int → Option R) (x7 : Int) : Option R :=
 bif (ltI x7 (lenI x5.length)) then
  gd (inR x7 x5.length) <|
  gd (inR x7 x6.length) <|
  bif (neI (List.getD x5 (Int.toNat x7) 0) (List.getD x6 (Int.toNat x7) 0)) then
   k0 false x7 (ltI x7 (lenI x5.length)) (neI (List.getD x5 (Int.toNat x7) 0) (List.getD x6 (Int.toNat x7) 0))
  else
  g0 (addI .i64 x7 1)
 else
 k1 x7 (ltI x7 (lenI x5.length))
noncomputable def f21T {R : Type} (sf21L4 : Tf21L4 R) (a2 a4 : List Int) (kr : Bool → Option R) : Option R :=
 bif (neI (lenI a2.length) (lenI a4.length)) then
  kr false
 else
 sf21L4 a2 a4 0 (fun z10 z11 z12 z13 =>
  kr z10) (fun z14 z15 =>
  kr true)
noncomputable def f21L4S {R : Type} (M : Nat) (x5 x6 : List Int) (x7 : Int) (k0 : Bool → Int → Bool → Bool → Option R) (k1 : Int → Bool → Option R) : Option R :=
  rounds (fun (g : Int → Option R) (a : Int) => f21L4 x5 x6 k0 k1 (fun y0 => g y0) a) M x7
noncomputable def f21 {R : Type} (M : Nat) (a2 a4 : List Int) (kr : Bool → Option R) : Option R :=
  f21T (f21L4S M) a2 a4 kr
noncomputable def w32 (P : (R : Type) → T32 R) : Fk := fun R xs k => match xs with
  | [.agg [.int .i64 a1, .int .i64 a2, .int .i64 a3, .int .i64 a4, .ints _ .i64 a6], .agg [.ints _ .i64 a8, .ints _ .i64 a10, .ints _ .i64 a12, .ints _ .i64 a14], .agg [.ints _ .i64 a16, .vals _ 29 a18], .bools _ a20] => P R a1 a2 a3 a4 a6 a8 a10 a12 a14 a16 a18 a20 (fun y0 => k [.bools .new y0])
  | _ => none
abbrev qf27L3of320 (t62 t63 t64 t65 t66 t67 t68 t69 t70 t71 t72 t73 t74 t75 t76 t77 t78 t79 t80 t81 : Tag) (p0 : List Int) (p1 p2 p3 p4 p5 p6 : Int) (p7 p8 p9 p10 p11 p12 : List Int) (p13 : List V) (p14 : List Bool) (p15 p16 p17 p18 : Int) (p19 p20 p21 p22 p23 p24 : List Int) (p25 : List V) (p26 p27 p28 p29 : Int) (p30 p31 p32 p33 p34 : List Int) (p35 : List V) (p36 p37 p38 : List Int) (p39 : List V) (p40 : List Bool) : St := { t := [(2, .ptr 7 0), (5, .ptr 8 0), (15, .ints t62 .i64 p0), (16, .int .i64 p1), (17, .int .i64 p2)], h := [(0, .cells [.int .i64 p3, .int .i64 p4, .int .i64 p5, .int .i64 p6, .ints t63 .i64 p7]), (1, .cells [.ints t64 .i64 p8, .ints t65 .i64 p9, .ints t66 .i64 p10, .ints t67 .i64 p11]), (2, .cells [.ints t68 .i64 p12, .vals t69 29 p13]), (3, .bools p14), (4, .cells [.int .i64 p15, .int .i64 p16, .int .i64 p17, .int .i64 p18, .ints t70 .i64 p19]), (5, .cells [.ints t71 .i64 p20, .ints t72 .i64 p21, .ints t73 .i64 p22, .ints t74 .i64 p23]), (6, .cells [.ints t75 .i64 p24, .vals t76 29 p25]), (7, .cells [.int .i64 p26, .int .i64 p27, .int .i64 p28, .int .i64 p29, .ints t77 .i64 p30]), (8, .cells [.ints t78 .i64 p31, .ints t79 .i64 p32, .ints t80 .i64 p33, .ints t81 .i64 p34, .own 9, .own 10, .own 11, .own 12, .own 13, .own 14]), (9, .vals 125 p35), (10, .ints .i64 p36), (11, .ints .i64 p37), (12, .ints .i64 p38), (13, .vals 29 p39), (14, .bools p40)], fz := [], nx := 15, lo := 7 }
abbrev ef27L3of320 (t62 t63 t64 t65 t66 t67 t68 t69 t70 t71 t72 t73 t74 t75 t76 t77 t78 t79 t80 t81 : Tag) (p0 : List Int) (p1 p2 : Int) (p3 : Bool) (p4 p5 p6 p7 : Int) (p8 p9 p10 p11 p12 p13 : List Int) (p14 : List V) (p15 : List Bool) (p16 p17 p18 p19 : Int) (p20 p21 p22 p23 p24 p25 : List Int) (p26 : List V) (p27 p28 p29 p30 : Int) (p31 p32 p33 p34 p35 : List Int) (p36 : List V) (p37 p38 p39 : List Int) (p40 : List V) (p41 : List Bool) : St := { t := [(2, .ptr 7 0), (5, .ptr 8 0), (15, .ints t62 .i64 p0), (16, .int .i64 p1), (17, .int .i64 p2), (18, .bool p3)], h := [(0, .cells [.int .i64 p4, .int .i64 p5, .int .i64 p6, .int .i64 p7, .ints t63 .i64 p8]), (1, .cells [.ints t64 .i64 p9, .ints t65 .i64 p10, .ints t66 .i64 p11, .ints t67 .i64 p12]), (2, .cells [.ints t68 .i64 p13, .vals t69 29 p14]), (3, .bools p15), (4, .cells [.int .i64 p16, .int .i64 p17, .int .i64 p18, .int .i64 p19, .ints t70 .i64 p20]), (5, .cells [.ints t71 .i64 p21, .ints t72 .i64 p22, .ints t73 .i64 p23, .ints t74 .i64 p24]), (6, .cells [.ints t75 .i64 p25, .vals t76 29 p26]), (7, .cells [.int .i64 p27, .int .i64 p28, .int .i64 p29, .int .i64 p30, .ints t77 .i64 p31]), (8, .cells [.ints t78 .i64 p32, .ints t79 .i64 p33, .ints t80 .i64 p34, .ints t81 .i64 p35, .own 9, .own 10, .own 11, .own 12, .own 13, .own 14]), (9, .vals 125 p36), (10, .ints .i64 p37), (11, .ints .i64 p38), (12, .ints .i64 p39), (13, .vals 29 p40), (14, .bools p41)], fz := [], nx := 15, lo := 7 }
noncomputable def smf27L3of32 (S : (R : Type) → Tf27L3of32 R) (fb : LOT) : Sm := { d := 38, f := 27, r := 3, p := (qf27L3of320 .frz .frz .frz .frz .frz .frz .frz .frz .frz .frz .frz .frz .frz .frz .frz .frz .frz .frz .frz .frz [] 0 0 0 0 0 0 [] [] [] [] [] [] [] [] 0 0 0 0 [] [] [] [] [] [] [] 0 0 0 0 [] [] [] [] [] [] [] [] [] [] []), s := fun R l k => match l with
  | .ints t62 x21 :: .int x22 :: .int x23 :: .int x24 :: .int x25 :: .int x26 :: .int x27 :: .ints t63 x28 :: .ints t64 x29 :: .ints t65 x30 :: .ints t66 x31 :: .ints t67 x32 :: .ints t68 x33 :: .vals t69 x34 :: .bools _ x35 :: .int x36 :: .int x37 :: .int x38 :: .int x39 :: .ints t70 x40 :: .ints t71 x41 :: .ints t72 x42 :: .ints t73 x43 :: .ints t74 x44 :: .ints t75 x45 :: .vals t76 x46 :: .int x47 :: .int x48 :: .int x49 :: .int x50 :: .ints t77 x51 :: .ints t78 x52 :: .ints t79 x53 :: .ints t80 x54 :: .ints t81 x55 :: .vals _ x56 :: .ints _ x57 :: .ints _ x58 :: .ints _ x59 :: .vals _ x60 :: .bools _ x61 :: [] => S R x21 x22 x24 x25 x26 x27 x28 x29 x30 x31 x32 x33 x34 x35 x36 x37 x38 x39 x40 x41 x42 x43 x44 x45 x46 x47 x48 x49 x50 x51 x52 x53 x54 x55 x59 x60 x61 x23 x56 x57 x58 (fun z0 z1 z2 z3 z4 => k (.exit 0) (ef27L3of320 t62 t63 t64 t65 t66 t67 t68 t69 t70 t71 t72 t73 t74 t75 t76 t77 t78 t79 t80 t81 x21 x22 z0 z1 x24 x25 x26 x27 x28 x29 x30 x31 x32 x33 x34 x35 x36 x37 x38 x39 x40 x41 x42 x43 x44 x45 x46 x47 x48 x49 x50 x51 x52 x53 x54 x55 z2 z3 z4 x59 x60 x61))
  | l => match fillS (qf27L3of320 .frz .frz .frz .frz .frz .frz .frz .frz .frz .frz .frz .frz .frz .frz .frz .frz .frz .frz .frz .frz [] 0 0 0 0 0 0 [] [] [] [] [] [] [] [] 0 0 0 0 [] [] [] [] [] [] [] 0 0 0 0 [] [] [] [] [] [] [] [] [] [] []) l with
    | some st => fb R 38 27 3 st k
    | none => none }
noncomputable def w11 (P : (R : Type) → T11 R) : Fk := fun R xs k => match xs with
  | [.agg [.int .i64 a1, .int .i64 a2, .int .i64 a3, .int .i64 a4, .ints _ .i64 a6, .ints _ .i64 a8, .ints _ .i64 a10, .ints _ .i64 a12, .ints _ .i64 a14, .ints _ .i64 a16, .ints _ .i64 a18, .vals _ 29 a20, .bools _ a22]] => P R a1 a2 a3 a4 a6 a8 a10 a12 a14 a16 a18 a20 a22 (fun y0 => k [.bools .new y0])
  | _ => none
noncomputable def w88 (P : (R : Type) → T88 R) : Fk := fun R xs k => match xs with
  | [.int .i64 a1, .int .i64 a2] => P R a1 a2 (fun y0 => k [.bool y0])
  | _ => none
noncomputable def w70 (P : (R : Type) → T70 R) : Fk := fun R xs k => match xs with
  | [.agg [.vals _ 151 a2, .vals _ 209 a4, .vals _ 151 a6, .ints _ .i64 a8], .agg [.ints _ .i64 a10, .vals _ 29 a12], .vals _ 166 a14, .bools _ a16] => P R a2 a4 a6 a8 a10 a12 a14 a16 (fun y0 => k [.bools .new y0])
  | _ => none
abbrev qf70L30 (t25 t26 t27 t28 t29 : Tag) (p0 : List V) (p1 : List Bool) (p2 : List V) (p3 p4 : Int) (p5 : List Int) (p6 : List V) (p7 : List Bool) : St := { t := [(2, .vals t25 166 p0), (3, .bools t26 p1), (5, .ptr 0 0), (9, .own 1), (17, .vals t27 151 p2), (18, .int .i64 p3), (19, .int .i64 p4)], h := [(0, .cells [.ints t28 .i64 p5, .vals t29 29 p6]), (1, .bools p7)], fz := [], nx := 2, lo := 0 }
abbrev ef70L30 (t25 t26 t27 t28 t29 : Tag) (p0 : List V) (p1 : List Bool) (p2 : List V) (p3 p4 : Int) (p5 : Bool) (p6 : List Int) (p7 : List V) (p8 : List Bool) : St := { t := [(2, .vals t25 166 p0), (3, .bools t26 p1), (5, .ptr 0 0), (9, .own 1), (17, .vals t27 151 p2), (18, .int .i64 p3), (19, .int .i64 p4), (20, .bool p5)], h := [(0, .cells [.ints t28 .i64 p6, .vals t29 29 p7]), (1, .bools p8)], fz := [], nx := 2, lo := 0 }
noncomputable def smf70L3 (S : (R : Type) → Tf70L3 R) (fb : LOT) : Sm := { d := 40, f := 70, r := 3, p := (qf70L30 .frz .frz .frz .frz .frz [] [] [] 0 0 [] [] []), s := fun R l k => match l with
  | .vals t25 x17 :: .bools t26 x18 :: .vals t27 x19 :: .int x20 :: .int x21 :: .ints t28 x22 :: .vals t29 x23 :: .bools _ x24 :: [] => S R x17 x18 x19 x20 x22 x23 x21 x24 (fun z0 z1 z2 => k (.exit 0) (ef70L30 t25 t26 t27 t28 t29 x17 x18 x19 x20 z0 z1 x22 x23 z2))
  | l => match fillS (qf70L30 .frz .frz .frz .frz .frz [] [] [] 0 0 [] [] []) l with
    | some st => fb R 40 70 3 st k
    | none => none }
noncomputable def w21 (P : (R : Type) → T21 R) : Fk := fun R xs k => match xs with
  | [.ints _ .i64 a2, .ints _ .i64 a4] => P R a2 a4 (fun y0 => k [.bool y0])
  | _ => none
abbrev qf21L40 (t8 t9 : Tag) (p0 p1 : List Int) (p2 : Int) : St := { t := [(0, .ints t8 .i64 p0), (1, .ints t9 .i64 p1), (5, .int .i64 p2)], h := [], fz := [], nx := 0, lo := 0 }
abbrev ef21L40 (t8 t9 : Tag) (p0 p1 : List Int) (p2 : Bool) (p3 : Int) (p4 p5 : Bool) : St := { t := [(0, .ints t8 .i64 p0), (1, .ints t9 .i64 p1), (4, .bool p2), (5, .int .i64 p3), (14, .bool p4), (25, .bool p5)], h := [], fz := [], nx := 0, lo := 0 }
abbrev ef21L41 (t8 t9 : Tag) (p0 p1 : List Int) (p2 : Int) (p3 : Bool) : St := { t := [(0, .ints t8 .i64 p0), (1, .ints t9 .i64 p1), (5, .int .i64 p2), (14, .bool p3)], h := [], fz := [], nx := 0, lo := 0 }
noncomputable def smf21L4 (S : (R : Type) → Tf21L4 R) (fb : LOT) : Sm := { d := 40, f := 21, r := 4, p := (qf21L40 .frz .frz [] [] 0), s := fun R l k => match l with
  | .ints t8 x5 :: .ints t9 x6 :: .int x7 :: [] => S R x5 x6 x7 (fun z0 z1 z2 z3 => k .ret (ef21L40 t8 t9 x5 x6 z0 z1 z2 z3)) (fun z0 z1 => k (.exit 0) (ef21L41 t8 t9 x5 x6 z0 z1))
  | l => match fillS (qf21L40 .frz .frz [] [] 0) l with
    | some st => fb R 40 21 4 st k
    | none => none }
theorem f27L3of32_seg {R : Type} (P36 : (R : Type) → T36 R) (P50 : (R : Type) → T50 R) (P61 : (R : Type) → T61 R) (LO : LOT) (g : St → Option R) (k : Ex → St → Option R) (t62 t63 t64 t65 t66 t67 t68 t69 t70 t71 t72 t73 t74 t75 t76 t77 t78 t79 t80 t81 : Tag) (x21 : List Int) (x22 x24 x25 x26 x27 : Int) (x28 x29 x30 x31 x32 x33 : List Int) (x34 : List V) (x35 : List Bool) (x36 x37 x38 x39 : Int) (x40 x41 x42 x43 x44 x45 : List Int) (x46 : List V) (x47 x48 x49 x50 : Int) (x51 x52 x53 x54 x55 x59 : List Int) (x60 : List V) (x61 : List Bool) (x23 : Int) (x56 : List V) (x57 x58 : List Int) :
    execL env (callsL env (tabOf [(36, w36 P36), (50, w50 P50), (61, w61 P61)]) spG (LOs [] LO) [] 38) 27 ((LOs [] LO) R 38 27) ((loopOf env 27 3).getD .skip) (qf27L3of320 t62 t63 t64 t65 t66 t67 t68 t69 t70 t71 t72 t73 t74 t75 t76 t77 t78 t79 t80 t81 x21 x22 x23 x24 x25 x26 x27 x28 x29 x30 x31 x32 x33 x34 x35 x36 x37 x38 x39 x40 x41 x42 x43 x44 x45 x46 x47 x48 x49 x50 x51 x52 x53 x54 x55 x56 x57 x58 x59 x60 x61) (bodyK env 27 3 g k) =
      f27L3of32 (P36 R) (P50 R) x21 x22 x24 x25 x26 x27 x28 x29 x30 x31 x32 x33 x34 x35 x36 x37 x38 x39 x40 x41 x42 x43 x44 x45 x46 x47 x48 x49 x50 x51 x52 x53 x54 x55 x59 x60 x61 (fun z0 z1 z2 z3 z4 => k (.exit 0) (ef27L3of320 t62 t63 t64 t65 t66 t67 t68 t69 t70 t71 t72 t73 t74 t75 t76 t77 t78 t79 t80 t81 x21 x22 z0 z1 x24 x25 x26 x27 x28 x29 x30 x31 x32 x33 x34 x35 x36 x37 x38 x39 x40 x41 x42 x43 x44 x45 x46 x47 x48 x49 x50 x51 x52 x53 x54 x55 z2 z3 z4 x59 x60 x61)) (fun y0 y1 y2 y3 => g (qf27L3of320 t62 t63 t64 t65 t66 t67 t68 t69 t70 t71 t72 t73 t74 t75 t76 t77 t78 t79 t80 t81 x21 x22 y0 x24 x25 x26 x27 x28 x29 x30 x31 x32 x33 x34 x35 x36 x37 x38 x39 x40 x41 x42 x43 x44 x45 x46 x47 x48 x49 x50 x51 x52 x53 x54 x55 y1 y2 y3 x59 x60 x61)) x23 x56 x57 x58 := by kernel_rfl
theorem f32_seg {R : Type} (P36 : (R : Type) → T36 R) (P50 : (R : Type) → T50 R) (P61 : (R : Type) → T61 R) (Sf27L3of32 : (R : Type) → Tf27L3of32 R) (LO : LOT) (k : List V → Option R) (t5 t7 t9 t11 t13 t15 t17 t19 : Tag) (a1 a2 a3 a4 : Int) (a6 a8 a10 a12 a14 a16 : List Int) (a18 : List V) (a20 : List Bool) :
    pureBodyLK env (callsL env (tabOf [(36, w36 P36), (50, w50 P50), (61, w61 P61)]) spG (LOs [smf27L3of32 Sf27L3of32 LO] LO) [] 40) 32 ((LOs [smf27L3of32 Sf27L3of32 LO] LO) R 40 32) [.agg [.int .i64 a1, .int .i64 a2, .int .i64 a3, .int .i64 a4, .ints t5 .i64 a6], .agg [.ints t7 .i64 a8, .ints t9 .i64 a10, .ints t11 .i64 a12, .ints t13 .i64 a14], .agg [.ints t15 .i64 a16, .vals t17 29 a18], .bools t19 a20] k =
      f32T (P61 R) (Sf27L3of32 R) a1 a2 a3 a4 a6 a8 a10 a12 a14 a16 a18 a20 (fun y0 => k [.bools .new y0]) := by kernel_rfl
theorem f11_seg {R : Type} (P32 : (R : Type) → T32 R) (LO : LOT) (k : List V → Option R) (t5 t7 t9 t11 t13 t15 t17 t19 t21 : Tag) (a1 a2 a3 a4 : Int) (a6 a8 a10 a12 a14 a16 a18 : List Int) (a20 : List V) (a22 : List Bool) :
    pureBodyLK env (callsL env (tabOf [(32, w32 P32)]) spG (LOs [] LO) [] 40) 11 ((LOs [] LO) R 40 11) [.agg [.int .i64 a1, .int .i64 a2, .int .i64 a3, .int .i64 a4, .ints t5 .i64 a6, .ints t7 .i64 a8, .ints t9 .i64 a10, .ints t11 .i64 a12, .ints t13 .i64 a14, .ints t15 .i64 a16, .ints t17 .i64 a18, .vals t19 29 a20, .bools t21 a22]] k =
      f11T (P32 R) a1 a2 a3 a4 a6 a8 a10 a12 a14 a16 a18 a20 a22 (fun y0 => k [.bools .new y0]) := by kernel_rfl
theorem f88_seg {R : Type} (LO : LOT) (k : List V → Option R) (a1 a2 : Int) :
    pureBodyLK env (callsL env (tabOf []) spG (LOs [] LO) [] 40) 88 ((LOs [] LO) R 40 88) [.int .i64 a1, .int .i64 a2] k =
      f88T a1 a2 (fun y0 => k [.bool y0]) := by kernel_rfl
theorem f70L3_seg {R : Type} (P88 : (R : Type) → T88 R) (LO : LOT) (g : St → Option R) (k : Ex → St → Option R) (t25 t26 t27 t28 t29 : Tag) (x17 : List V) (x18 : List Bool) (x19 : List V) (x20 : Int) (x22 : List Int) (x23 : List V) (x21 : Int) (x24 : List Bool) :
    execL env (callsL env (tabOf [(88, w88 P88)]) spG (LOs [] LO) [] 40) 70 ((LOs [] LO) R 40 70) ((loopOf env 70 3).getD .skip) (qf70L30 t25 t26 t27 t28 t29 x17 x18 x19 x20 x21 x22 x23 x24) (bodyK env 70 3 g k) =
      f70L3 (P88 R) x17 x18 x19 x20 x22 x23 (fun z0 z1 z2 => k (.exit 0) (ef70L30 t25 t26 t27 t28 t29 x17 x18 x19 x20 z0 z1 x22 x23 z2)) (fun y0 y1 => g (qf70L30 t25 t26 t27 t28 t29 x17 x18 x19 x20 y0 x22 x23 y1)) x21 x24 := by kernel_rfl
theorem f70_seg {R : Type} (P88 : (R : Type) → T88 R) (Sf70L3 : (R : Type) → Tf70L3 R) (LO : LOT) (k : List V → Option R) (t1 t3 t5 t7 t9 t11 t13 t15 : Tag) (a2 a4 a6 : List V) (a8 a10 : List Int) (a12 a14 : List V) (a16 : List Bool) :
    pureBodyLK env (callsL env (tabOf [(88, w88 P88)]) spG (LOs [smf70L3 Sf70L3 LO] LO) [] 40) 70 ((LOs [smf70L3 Sf70L3 LO] LO) R 40 70) [.agg [.vals t1 151 a2, .vals t3 209 a4, .vals t5 151 a6, .ints t7 .i64 a8], .agg [.ints t9 .i64 a10, .vals t11 29 a12], .vals t13 166 a14, .bools t15 a16] k =
      f70T (Sf70L3 R) a2 a4 a6 a8 a10 a12 a14 a16 (fun y0 => k [.bools .new y0]) := by kernel_rfl
theorem f21L4_seg {R : Type} (LO : LOT) (g : St → Option R) (k : Ex → St → Option R) (t8 t9 : Tag) (x5 x6 : List Int) (x7 : Int) :
    execL env (callsL env (tabOf []) spG (LOs [] LO) [] 40) 21 ((LOs [] LO) R 40 21) ((loopOf env 21 4).getD .skip) (qf21L40 t8 t9 x5 x6 x7) (bodyK env 21 4 g k) =
      f21L4 x5 x6 (fun z0 z1 z2 z3 => k .ret (ef21L40 t8 t9 x5 x6 z0 z1 z2 z3)) (fun z0 z1 => k (.exit 0) (ef21L41 t8 t9 x5 x6 z0 z1)) (fun y0 => g (qf21L40 t8 t9 x5 x6 y0)) x7 := by kernel_rfl
theorem f21_seg {R : Type} (Sf21L4 : (R : Type) → Tf21L4 R) (LO : LOT) (k : List V → Option R) (t1 t3 : Tag) (a2 a4 : List Int) :
    pureBodyLK env (callsL env (tabOf []) spG (LOs [smf21L4 Sf21L4 LO] LO) [] 40) 21 ((LOs [smf21L4 Sf21L4 LO] LO) R 40 21) [.ints t1 .i64 a2, .ints t3 .i64 a4] k =
      f21T (Sf21L4 R) a2 a4 (fun y0 => k [.bool y0]) := by kernel_rfl
end Go.Vm.T3
