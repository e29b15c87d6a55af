/-
  A part of the proof that FabricPads answers true at every input. No condition.
-/
import Derived.Test.YtnjjhhbogdiceaaGreatYg
set_option linter.unusedVariables false
set_option maxRecDepth 100000
namespace Go.Vm.T3
open Go Go.Vm
noncomputable def f6 {R : Type} (M : Nat) (kr : Bool → Option R) : Option R := kr true
noncomputable def w6 (P : (R : Type) → T6 R) : Fk := fun R xs k => match xs with
  | [] => P R (fun y0 => k [.bool y0])
  | _ => none
abbrev T4 (R : Type) := Int → Int → Int → Int → List Int → List V → List V → List Int → List V → List V → List Int → List V → List V → List Bool → List Int → List Int → Int → (Bool → Option R) → Option R
abbrev Tf4L15 (R : Type) := Bool → Int → Int → Int → Int → Int → Int → List Int → List Int → List Int → List Int → List Int → List Int → List Int → List V → List Bool → List Bool → List Bool → Bool → Int → (Bool → Int → Bool → Option R) → Option R
noncomputable def f4L15 {R : Type} (x83 : Bool) (x84 x85 x88 x89 x90 x91 : Int) (x92 x93 x94 x95 x96 x97 x98 : List Int) (x99 : List V) (x100 x101 x102 : List Bool) (k0 : Bool → Int → Bool → Option R) (g0 : Bool → Int → Option R) (x86 : Bool) (x87 : Int) : Option R :=
 bif (ltI x87 (lenI x97.length)) then
  bif x86 then
   g0 true (addI .i64 x87 1)
  else
  gd (inR x87 x97.length) <|
  g0 (eqI (List.getD x97 (Int.toNat x87) 0) (addI .i64 x84 x85)) (addI .i64 x87 1)
 else
 k0 x86 x87 (ltI x87 (lenI x97.length))
abbrev Tf4L19 (R : Type) := Bool → Int → Int → Bool → List Bool → List Bool → Int → (Bool → Int → Bool → Bool → Option R) → (Int → Bool → Option R) → Option R
noncomputable def f4L19 {R : Type} (x106 : Bool) (x107 x108 : Int) (x109 : Bool) (x111 x112 : List Bool) (k0 : Bool → Int → Bool → Bool → Option R) (k1 : Int → Bool → Option R) (g0 : Int → Option R) (x110 : Int) : Option R :=
 bif (ltI x110 (lenI x111.length)) then
  bif (notB x109) then
   bif (neI x110 (addI .i64 x107 x108)) then
    gd (inR x110 x111.length) <|
    gd (inR x110 x112.length) <|
    bif (neB (List.getD x111 (Int.toNat x110) false) (List.getD x112 (Int.toNat x110) false)) then
     k0 false x110 (notB x109) (neB (List.getD x111 (Int.toNat x110) false) (List.getD x112 (Int.toNat x110) false))
    else
    g0 (addI .i64 x110 1)
   else
   g0 (addI .i64 x110 1)
  else
  k1 x110 (notB x109)
 else
 k1 x110 false
noncomputable def f4T {R : Type} (p6 : T6 R) (p7 : T7 R) (p11 : T11 R) (p12 : T12 R) (p16 : T16 R) (p17 : T17 R) (p22 : T22 R) (p23 : T23 R) (p24 : T24 R) (p25 : T25 R) (sf4L15 : Tf4L15 R) (sf4L19 : Tf4L19 R) (a1 a2 a3 a4 : Int) (a5 : List Int) (a6 a7 : List V) (a8 : List Int) (a9 a10 : List V) (a11 : List Int) (a12 a13 : List V) (a14 : List Bool) (a15 a16 : List Int) (a17 : Int) (kr : Bool → Option R) : Option R :=
 p6 (fun y18 =>
  bif (notB y18) then
   kr false
  else
  p7 a1 a2 a3 a4 a5 a6 a7 a8 a9 a10 a11 a12 a13 a14 a15 a16 (fun y19 =>
   bif (notB y19) then
    kr y18
   else
   p22 a1 a2 a3 a4 a5 a6 a7 (fun y20 y21 y22 y23 y24 y25 y26 y27 y28 y29 y30 =>
    p23 y25 y26 y27 y28 y20 y21 y22 y23 y24 y29 y30 (fun y31 y32 y33 y34 y35 =>
     bif (ltI 0 (lenI a8.length)) then
      p24 y20 y21 y22 y23 y24 a8 (fun y36 y37 y38 y39 =>
       p25 y20 y21 y22 y23 y24 y36 y37 y38 y39 (fun y40 y41 y42 y43 y44 y45 y46 y47 y48 y49 y50 y51 y52 =>
        p12 4 a15 (fun y53 =>
         p16 y40 y41 y42 y43 y44 y45 y46 y47 y48 y49 y50 y51 y52 a11 a12 y53 (fun y54 y55 y56 y57 y58 y59 y60 y61 y62 y63 y64 y65 y66 =>
          p17 y66 (convI .i64 (remI a17 4)) (fun y67 =>
           p16 y54 y55 y56 y57 y58 y59 y60 y61 y62 y63 y64 y65 y66 y64 y65 y67 (fun y68 y69 y70 y71 y72 y73 y74 y75 y76 y77 y78 y79 y80 =>
            p11 y54 y55 y56 y57 y58 y59 y60 y61 y62 y63 y64 y65 y66 (fun y81 =>
             p11 y68 y69 y70 y71 y72 y73 y74 y75 y76 y77 y78 y79 y80 (fun y82 =>
              bif (neI (lenI y81.length) (lenI y59.length)) then
               kr false
              else
              bif (neI (lenI y82.length) (lenI y81.length)) then
               kr false
              else
              gd (inR (addI .i64 (subI .i64 (lenI y59.length) (mulI .i64 2 y57)) (convI .i64 (remI a17 4))) y81.length) <|
              gd (inR (addI .i64 (subI .i64 (lenI y59.length) (mulI .i64 2 y57)) (convI .i64 (remI a17 4))) y82.length) <|
              bif (eqB (List.getD y81 (Int.toNat (addI .i64 (subI .i64 (lenI y59.length) (mulI .i64 2 y57)) (convI .i64 (remI a17 4)))) false) (List.getD y82 (Int.toNat (addI .i64 (subI .i64 (lenI y59.length) (mulI .i64 2 y57)) (convI .i64 (remI a17 4)))) false)) then
               kr false
              else
              sf4L15 y18 (subI .i64 (lenI y59.length) (mulI .i64 2 y57)) (convI .i64 (remI a17 4)) y54 y55 y56 y57 y58 y59 y60 y61 y62 y63 y64 y65 y66 y81 y82 false 0 (fun z103 z104 z105 =>
               sf4L19 y18 (subI .i64 (lenI y59.length) (mulI .i64 2 y57)) (convI .i64 (remI a17 4)) z103 y81 y82 0 (fun z113 z114 z115 z116 =>
                kr z113) (fun z117 z118 =>
                kr y18))))))))))
     else
     p25 y20 y21 y22 y23 y24 y31 y32 y33 y34 (fun y119 y120 y121 y122 y123 y124 y125 y126 y127 y128 y129 y130 y131 =>
      p12 4 a15 (fun y132 =>
       p16 y119 y120 y121 y122 y123 y124 y125 y126 y127 y128 y129 y130 y131 a11 a12 y132 (fun y133 y134 y135 y136 y137 y138 y139 y140 y141 y142 y143 y144 y145 =>
        p17 y145 (convI .i64 (remI a17 4)) (fun y146 =>
         p16 y133 y134 y135 y136 y137 y138 y139 y140 y141 y142 y143 y144 y145 y143 y144 y146 (fun y147 y148 y149 y150 y151 y152 y153 y154 y155 y156 y157 y158 y159 =>
          p11 y133 y134 y135 y136 y137 y138 y139 y140 y141 y142 y143 y144 y145 (fun y160 =>
           p11 y147 y148 y149 y150 y151 y152 y153 y154 y155 y156 y157 y158 y159 (fun y161 =>
            bif (neI (lenI y160.length) (lenI y138.length)) then
             kr false
            else
            bif (neI (lenI y161.length) (lenI y160.length)) then
             kr false
            else
            gd (inR (addI .i64 (subI .i64 (lenI y138.length) (mulI .i64 2 y136)) (convI .i64 (remI a17 4))) y160.length) <|
            gd (inR (addI .i64 (subI .i64 (lenI y138.length) (mulI .i64 2 y136)) (convI .i64 (remI a17 4))) y161.length) <|
            bif (eqB (List.getD y160 (Int.toNat (addI .i64 (subI .i64 (lenI y138.length) (mulI .i64 2 y136)) (convI .i64 (remI a17 4)))) false) (List.getD y161 (Int.toNat (addI .i64 (subI .i64 (lenI y138.length) (mulI .i64 2 y136)) (convI .i64 (remI a17 4)))) false)) then
             kr false
            else
            sf4L15 y18 (subI .i64 (lenI y138.length) (mulI .i64 2 y136)) (convI .i64 (remI a17 4)) y133 y134 y135 y136 y137 y138 y139 y140 y141 y142 y143 y144 y145 y160 y161 false 0 (fun z162 z163 z164 =>
             sf4L19 y18 (subI .i64 (lenI y138.length) (mulI .i64 2 y136)) (convI .i64 (remI a17 4)) z162 y160 y161 0 (fun z165 z166 z167 z168 =>
              kr z165) (fun z169 z170 =>
              kr y18)))))))))))))
noncomputable def f4L15S {R : Type} (M : Nat) (x83 : Bool) (x84 x85 x88 x89 x90 x91 : Int) (x92 x93 x94 x95 x96 x97 x98 : List Int) (x99 : List V) (x100 x101 x102 : List Bool) (x86 : Bool) (x87 : Int) (k0 : Bool → Int → Bool → Option R) : Option R :=
  rounds (fun (g : Bool × Int → Option R) (a : Bool × Int) => f4L15 x83 x84 x85 x88 x89 x90 x91 x92 x93 x94 x95 x96 x97 x98 x99 x100 x101 x102 k0 (fun y0 y1 => g (y0, y1)) a.1 a.2) M (x86, x87)
noncomputable def f4L19S {R : Type} (M : Nat) (x106 : Bool) (x107 x108 : Int) (x109 : Bool) (x111 x112 : List Bool) (x110 : Int) (k0 : Bool → Int → Bool → Bool → Option R) (k1 : Int → Bool → Option R) : Option R :=
  rounds (fun (g : Int → Option R) (a : Int) => f4L19 x106 x107 x108 x109 x111 x112 k0 k1 (fun y0 => g y0) a) M x110
noncomputable def f4 {R : Type} (M : Nat) (a1 a2 a3 a4 : Int) (a5 : List Int) (a6 a7 : List V) (a8 : List Int) (a9 a10 : List V) (a11 : List Int) (a12 a13 : List V) (a14 : List Bool) (a15 a16 : List Int) (a17 : Int) (kr : Bool → Option R) : Option R :=
  f4T (f6 M) (f7 M) (f11 M) (f12 M) (f16 M) (f17 M) (f22 M) (f23 M) (f24 M) (f25 M) (f4L15S M) (f4L19S M) a1 a2 a3 a4 a5 a6 a7 a8 a9 a10 a11 a12 a13 a14 a15 a16 a17 kr
noncomputable def w4 (P : (R : Type) → T4 R) : Fk := fun R xs k => match xs with
  | [.agg [.int .u8 a1, .int .u8 a2, .int .u8 a3, .int .u8 a4, .ints .frz .u8 a5, .vals .frz 155 a6, .vals .frz 22 a7, .ints .frz .u8 a8, .vals .frz 155 a9, .vals .frz 155 a10, .ints .frz .i64 a11, .vals .frz 29 a12, .vals .frz 166 a13, .bools .frz a14, .ints .frz .u8 a15, .ints .frz .u8 a16], .int .u8 a17] => P R a1 a2 a3 a4 a5 a6 a7 a8 a9 a10 a11 a12 a13 a14 a15 a16 a17 (fun y0 => k [.bool y0])
  | _ => none
abbrev qf4L150 (p0 : Bool) (p1 p2 : Int) (p3 : Bool) (p4 p5 p6 p7 p8 : Int) (p9 p10 p11 p12 p13 p14 p15 : List Int) (p16 : List V) (p17 p18 p19 : List Bool) : St := { t := [(5, .bool p0), (6, .ptr 0 0), (7, .int .i64 p1), (8, .int .i64 p2), (10, .own 1), (11, .own 2), (12, .bool p3), (13, .int .i64 p4)], h := [(0, .cells [.int .i64 p5, .int .i64 p6, .int .i64 p7, .int .i64 p8, .ints .frz .i64 p9, .ints .frz .i64 p10, .ints .frz .i64 p11, .ints .frz .i64 p12, .ints .frz .i64 p13, .ints .frz .i64 p14, .ints .frz .i64 p15, .vals .frz 29 p16, .bools .frz p17]), (1, .bools p18), (2, .bools p19)], fz := [], nx := 3, lo := 0 }
abbrev ef4L150 (p0 : Bool) (p1 p2 : Int) (p3 : Bool) (p4 : Int) (p5 : Bool) (p6 p7 p8 p9 : Int) (p10 p11 p12 p13 p14 p15 p16 : List Int) (p17 : List V) (p18 p19 p20 : List Bool) : St := { t := [(5, .bool p0), (6, .ptr 0 0), (7, .int .i64 p1), (8, .int .i64 p2), (10, .own 1), (11, .own 2), (12, .bool p3), (13, .int .i64 p4), (81, .bool p5)], h := [(0, .cells [.int .i64 p6, .int .i64 p7, .int .i64 p8, .int .i64 p9, .ints .frz .i64 p10, .ints .frz .i64 p11, .ints .frz .i64 p12, .ints .frz .i64 p13, .ints .frz .i64 p14, .ints .frz .i64 p15, .ints .frz .i64 p16, .vals .frz 29 p17, .bools .frz p18]), (1, .bools p19), (2, .bools p20)], fz := [], nx := 3, lo := 0 }
noncomputable def smf4L15 (S : (R : Type) → Tf4L15 R) (fb : LOT) : Sm := { d := 40, f := 4, r := 15, p := (qf4L150 false 0 0 false 0 0 0 0 0 [] [] [] [] [] [] [] [] [] [] []), s := fun R l k => match l with
  | .bool x83 :: .int x84 :: .int x85 :: .bool x86 :: .int x87 :: .int x88 :: .int x89 :: .int x90 :: .int x91 :: .ints .frz x92 :: .ints .frz x93 :: .ints .frz x94 :: .ints .frz x95 :: .ints .frz x96 :: .ints .frz x97 :: .ints .frz x98 :: .vals .frz x99 :: .bools .frz x100 :: .bools _ x101 :: .bools _ x102 :: [] => S R x83 x84 x85 x88 x89 x90 x91 x92 x93 x94 x95 x96 x97 x98 x99 x100 x101 x102 x86 x87 (fun z0 z1 z2 => k (.exit 0) (ef4L150 x83 x84 x85 z0 z1 z2 x88 x89 x90 x91 x92 x93 x94 x95 x96 x97 x98 x99 x100 x101 x102))
  | l => match fillS (qf4L150 false 0 0 false 0 0 0 0 0 [] [] [] [] [] [] [] [] [] [] []) l with
    | some st => fb R 40 4 15 st k
    | none => none }
abbrev qf4L190 (p0 : Bool) (p1 p2 : Int) (p3 : Bool) (p4 : Int) (p5 p6 : List Bool) : St := { t := [(5, .bool p0), (7, .int .i64 p1), (8, .int .i64 p2), (10, .own 0), (11, .own 1), (12, .bool p3), (14, .int .i64 p4)], h := [(0, .bools p5), (1, .bools p6)], fz := [], nx := 2, lo := 0 }
abbrev ef4L190 (p0 p1 : Bool) (p2 p3 : Int) (p4 : Bool) (p5 : Int) (p6 p7 : Bool) (p8 p9 : List Bool) : St := { t := [(4, .bool p0), (5, .bool p1), (7, .int .i64 p2), (8, .int .i64 p3), (10, .own 0), (11, .own 1), (12, .bool p4), (14, .int .i64 p5), (103, .bool p6), (121, .bool p7)], h := [(0, .bools p8), (1, .bools p9)], fz := [], nx := 2, lo := 0 }
abbrev ef4L191 (p0 : Bool) (p1 p2 : Int) (p3 : Bool) (p4 : Int) (p5 : Bool) (p6 p7 : List Bool) : St := { t := [(5, .bool p0), (7, .int .i64 p1), (8, .int .i64 p2), (10, .own 0), (11, .own 1), (12, .bool p3), (14, .int .i64 p4), (103, .bool p5)], h := [(0, .bools p6), (1, .bools p7)], fz := [], nx := 2, lo := 0 }
noncomputable def smf4L19 (S : (R : Type) → Tf4L19 R) (fb : LOT) : Sm := { d := 40, f := 4, r := 19, p := (qf4L190 false 0 0 false 0 [] []), s := fun R l k => match l with
  | .bool x106 :: .int x107 :: .int x108 :: .bool x109 :: .int x110 :: .bools _ x111 :: .bools _ x112 :: [] => S R x106 x107 x108 x109 x111 x112 x110 (fun z0 z1 z2 z3 => k .ret (ef4L190 z0 x106 x107 x108 x109 z1 z2 z3 x111 x112)) (fun z0 z1 => k (.exit 2) (ef4L191 x106 x107 x108 x109 z0 z1 x111 x112))
  | l => match fillS (qf4L190 false 0 0 false 0 [] []) l with
    | some st => fb R 40 4 19 st k
    | none => none }
theorem f4L15_seg {R : Type} (P6 : (R : Type) → T6 R) (P7 : (R : Type) → T7 R) (P11 : (R : Type) → T11 R) (P12 : (R : Type) → T12 R) (P16 : (R : Type) → T16 R) (P17 : (R : Type) → T17 R) (P22 : (R : Type) → T22 R) (P23 : (R : Type) → T23 R) (P24 : (R : Type) → T24 R) (P25 : (R : Type) → T25 R) (LO : LOT) (g : St → Option R) (k : Ex → St → Option R) (x83 : Bool) (x84 x85 x88 x89 x90 x91 : Int) (x92 x93 x94 x95 x96 x97 x98 : List Int) (x99 : List V) (x100 x101 x102 : List Bool) (x86 : Bool) (x87 : Int) :
    execL env (callsL env (tabOf [(6, w6 P6), (7, w7 P7), (11, w11 P11), (12, w12 P12), (16, w16 P16), (17, w17 P17), (22, w22 P22), (23, w23 P23), (24, w24 P24), (25, w25 P25)]) spG (LOs [] LO) [] 40) 4 ((LOs [] LO) R 40 4) ((loopOf env 4 15).getD .skip) (qf4L150 x83 x84 x85 x86 x87 x88 x89 x90 x91 x92 x93 x94 x95 x96 x97 x98 x99 x100 x101 x102) (bodyK env 4 15 g k) =
      f4L15 x83 x84 x85 x88 x89 x90 x91 x92 x93 x94 x95 x96 x97 x98 x99 x100 x101 x102 (fun z0 z1 z2 => k (.exit 0) (ef4L150 x83 x84 x85 z0 z1 z2 x88 x89 x90 x91 x92 x93 x94 x95 x96 x97 x98 x99 x100 x101 x102)) (fun y0 y1 => g (qf4L150 x83 x84 x85 y0 y1 x88 x89 x90 x91 x92 x93 x94 x95 x96 x97 x98 x99 x100 x101 x102)) x86 x87 := by kernel_rfl
theorem f4L19_seg {R : Type} (P6 : (R : Type) → T6 R) (P7 : (R : Type) → T7 R) (P11 : (R : Type) → T11 R) (P12 : (R : Type) → T12 R) (P16 : (R : Type) → T16 R) (P17 : (R : Type) → T17 R) (P22 : (R : Type) → T22 R) (P23 : (R : Type) → T23 R) (P24 : (R : Type) → T24 R) (P25 : (R : Type) → T25 R) (LO : LOT) (g : St → Option R) (k : Ex → St → Option R) (x106 : Bool) (x107 x108 : Int) (x109 : Bool) (x111 x112 : List Bool) (x110 : Int) :
    execL env (callsL env (tabOf [(6, w6 P6), (7, w7 P7), (11, w11 P11), (12, w12 P12), (16, w16 P16), (17, w17 P17), (22, w22 P22), (23, w23 P23), (24, w24 P24), (25, w25 P25)]) spG (LOs [] LO) [] 40) 4 ((LOs [] LO) R 40 4) ((loopOf env 4 19).getD .skip) (qf4L190 x106 x107 x108 x109 x110 x111 x112) (bodyK env 4 19 g k) =
      f4L19 x106 x107 x108 x109 x111 x112 (fun z0 z1 z2 z3 => k .ret (ef4L190 z0 x106 x107 x108 x109 z1 z2 z3 x111 x112)) (fun z0 z1 => k (.exit 2) (ef4L191 x106 x107 x108 x109 z0 z1 x111 x112)) (fun y0 => g (qf4L190 x106 x107 x108 x109 y0 x111 x112)) x110 := by kernel_rfl
theorem f4_seg {R : Type} (P6 : (R : Type) → T6 R) (P7 : (R : Type) → T7 R) (P11 : (R : Type) → T11 R) (P12 : (R : Type) → T12 R) (P16 : (R : Type) → T16 R) (P17 : (R : Type) → T17 R) (P22 : (R : Type) → T22 R) (P23 : (R : Type) → T23 R) (P24 : (R : Type) → T24 R) (P25 : (R : Type) → T25 R) (Sf4L15 : (R : Type) → Tf4L15 R) (Sf4L19 : (R : Type) → Tf4L19 R) (LO : LOT) (k : List V → Option R) (a1 a2 a3 a4 : Int) (a5 : List Int) (a6 a7 : List V) (a8 : List Int) (a9 a10 : List V) (a11 : List Int) (a12 a13 : List V) (a14 : List Bool) (a15 a16 : List Int) (a17 : Int) :
    pureBodyLK env (callsL env (tabOf [(6, w6 P6), (7, w7 P7), (11, w11 P11), (12, w12 P12), (16, w16 P16), (17, w17 P17), (22, w22 P22), (23, w23 P23), (24, w24 P24), (25, w25 P25)]) spG (LOs [smf4L15 Sf4L15 LO, smf4L19 Sf4L19 LO] LO) [] 40) 4 ((LOs [smf4L15 Sf4L15 LO, smf4L19 Sf4L19 LO] LO) R 40 4) [.agg [.int .u8 a1, .int .u8 a2, .int .u8 a3, .int .u8 a4, .ints .frz .u8 a5, .vals .frz 155 a6, .vals .frz 22 a7, .ints .frz .u8 a8, .vals .frz 155 a9, .vals .frz 155 a10, .ints .frz .i64 a11, .vals .frz 29 a12, .vals .frz 166 a13, .bools .frz a14, .ints .frz .u8 a15, .ints .frz .u8 a16], .int .u8 a17] k =
      f4T (P6 R) (P7 R) (P11 R) (P12 R) (P16 R) (P17 R) (P22 R) (P23 R) (P24 R) (P25 R) (Sf4L15 R) (Sf4L19 R) a1 a2 a3 a4 a5 a6 a7 a8 a9 a10 a11 a12 a13 a14 a15 a16 a17 (fun y0 => k [.bool y0]) := by kernel_rfl
end Go.Vm.T3
