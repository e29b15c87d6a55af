/-
  A part of the proof that FabricPads answers true at every input. No condition.
-/
import Derived.Test.YtnjjhhbogdiceaaGreatYc
set_option linter.unusedVariables false
set_option maxRecDepth 100000
namespace Go.Vm.T3
open Go Go.Vm
abbrev T36 (R : Type) := Int → Int → Int → Int → List Int → Int → (List Int → Option R) → Option R
abbrev Tf65Cof36 (R : Type) := Int → Int → Int → Int → Int → Int → Int → Int → List Int → List Int → (List Int → Option R) → Option R
noncomputable def f65Cof36 {R : Type} (p83 : T83 R) (x43 x44 x45 x46 x47 x48 x49 x50 : Int) (x51 x52 : List Int) (k0 : List Int → Option R) : Option R :=
 p83 x47 x48 x49 x50 x51 x43 x44 x45 x46 (fun y54 y55 =>
  bif (eqI y55 0) then
   gd (okL (x52 ++ [y54]).length) <|
   k0 (x52 ++ [y54])
  else
  k0 x52)
abbrev Tf68Cof36 (R : Type) := Int → Int → Int → Int → Int → Int → Int → List Int → List Int → (List Int → Option R) → Option R
noncomputable def f68Cof36 {R : Type} (sf65Cof36 : Tf65Cof36 R) (x33 x34 x35 x36 x37 x38 x39 : Int) (x40 x41 : List Int) (k0 : List Int → Option R) : Option R :=
 bif (ltI x33 0) then
  k0 x41
 else
 bif (leI x36 x33) then
  k0 x41
 else
 bif (ltI x34 0) then
  k0 x41
 else
 bif (leI x37 x34) then
  k0 x41
 else
 sf65Cof36 4 x33 x34 x35 x36 x37 x38 x39 x40 x41 (fun z56 =>
  sf65Cof36 5 x33 x34 x35 x36 x37 x38 x39 x40 z56 (fun z57 =>
   sf65Cof36 4 (subI .i64 x33 1) x34 x35 x36 x37 x38 x39 x40 z57 (fun z58 =>
    sf65Cof36 5 x33 (subI .i64 x34 1) x35 x36 x37 x38 x39 x40 z58 (fun z59 =>
     k0 z59))))
abbrev Tf64L1of36 (R : Type) := Int → Int → Int → Int → Int → Int → Int → List Int → Int → List Int → (Int → Bool → List Int → Option R) → Option R
noncomputable def f64L1of36 {R : Type} (sf68Cof36 : Tf68Cof36 R) (x22 x23 x24 x26 x27 x28 x29 : Int) (x30 : List Int) (k0 : Int → Bool → List Int → Option R) (g0 : Int → List Int → Option R) (x25 : Int) (x31 : List Int) : Option R :=
 bif (ltI x25 x24) then
  sf68Cof36 x22 x23 x25 x26 x27 x28 x29 x30 x31 (fun z60 =>
   g0 (addI .i64 x25 1) z60)
 else
 k0 x25 (ltI x25 x24) x31
abbrev Tf64Cof36 (R : Type) := Int → Int → Int → Int → Int → Int → List Int → List Int → (List Int → Option R) → Option R
noncomputable def f64Cof36 {R : Type} (sf64L1of36 : Tf64L1of36 R) (x13 x14 x15 x16 x17 x18 : Int) (x19 x20 : List Int) (k0 : List Int → Option R) : Option R :=
 sf64L1of36 x13 x14 x17 x15 x16 x17 x18 x19 0 x20 (fun z61 z62 z63 =>
  k0 z63)
abbrev Tf59L2of36 (R : Type) := Int → Int → Int → Int → Int → List Int → List Int → Int → List Int → List Int → Int → (Int → Int → Int → Bool → Bool → Option R) → (Int → Bool → Option R) → Option R
noncomputable def f59L2of36 {R : Type} (x74 x76 x77 x78 x79 : Int) (x80 x81 : List Int) (x82 : Int) (x83 x84 : List Int) (k0 : Int → Int → Int → Bool → Bool → Option R) (k1 : Int → Bool → Option R) (g0 : Int → Option R) (x75 : Int) : Option R :=
 bif (ltI x75 x74) then
  gd (inR x75 x81.length) <|
  bif (eqI (List.getD x81 (Int.toNat x75) 0) x82) then
   k0 x75 x75 x75 (ltI x75 x74) (eqI (List.getD x81 (Int.toNat x75) 0) x82)
  else
  g0 (addI .i64 x75 1)
 else
 k1 x75 (ltI x75 x74)
abbrev Tf86L5of36 (R : Type) := Int → Int → Int → Int → List Int → Int → List Int → Int → Int → List Int → (Int → Int → Bool → List Int → Option R) → Option R
noncomputable def f86L5of36 {R : Type} (x93 x94 x95 x96 : Int) (x97 : List Int) (x99 : Int) (x100 : List Int) (k0 : Int → Int → Bool → List Int → Option R) (g0 : Int → Int → List Int → Option R) (x91 x92 : Int) (x98 : List Int) : Option R :=
 bif (ltI x92 (lenI x98.length)) then
  gd (inR x92 x98.length) <|
  bif (notB (eqI (List.getD x98 (Int.toNat x92) 0) x99)) then
   gd (inR x91 x98.length) <|
   g0 (addI .i64 x91 1) (addI .i64 x92 1) (List.set x98 (Int.toNat x91) (List.getD x98 (Int.toNat x92) 0))
  else
  g0 x91 (addI .i64 x92 1) x98
 else
 k0 x91 x92 (ltI x92 (lenI x98.length)) x98
abbrev Tf85L9of36 (R : Type) := Nat → Nat → Int → Int → Int → Int → List Int → Int → List Int → Int → Int → List Int → (Int → Int → Bool → List Int → Option R) → Option R
noncomputable def f85L9of36 {R : Type} (x119 x120 : Nat) (x122 x123 x124 x125 : Int) (x126 : List Int) (x128 : Int) (x129 : List Int) (k0 : Int → Int → Bool → List Int → Option R) (g0 : Int → Int → List Int → Option R) (x118 x121 : Int) (x127 : List Int) : Option R :=
 bif (ltI x121 (lenI x120)) then
  gd (inR x121 x120) <|
  gd (inR (subI .i64 x121 1) x120) <|
  bif (neI (List.getD x127 (x119 + (Int.toNat x121)) 0) (List.getD x127 (x119 + (Int.toNat (subI .i64 x121 1))) 0)) then
   gd (inR x121 x120) <|
   gd (inR x118 x127.length) <|
   g0 (addI .i64 x118 1) (addI .i64 x121 1) (List.set x127 (Int.toNat x118) (List.getD x127 (x119 + (Int.toNat x121)) 0))
  else
  g0 x118 (addI .i64 x121 1) x127
 else
 k0 x118 x121 (ltI x121 (lenI x120)) x127
abbrev Tf85L4of36 (R : Type) := Int → Int → Int → Int → List Int → List Int → Int → List Int → Int → (Nat → Nat → Int → Nat → Nat → Int → Bool → List Int → Option R) → (Int → Bool → Option R) → Option R
noncomputable def f85L4of36 {R : Type} (sf85L9of36 : Tf85L9of36 R) (x109 x110 x111 x112 : Int) (x113 x114 : List Int) (x115 : Int) (x116 : List Int) (k0 : Nat → Nat → Int → Nat → Nat → Int → Bool → List Int → Option R) (k1 : Int → Bool → Option R) (g0 : Int → Option R) (x108 : Int) : Option R :=
 bif (ltI x108 (lenI x114.length)) then
  gd (inR x108 x114.length) <|
  gd (inR (subI .i64 x108 1) x114.length) <|
  bif (eqI (List.getD x114 (Int.toNat x108) 0) (List.getD x114 (Int.toNat (subI .i64 x108 1)) 0)) then
   gd (inS x108 (lenI x114.length) x114.length) <|
   sf85L9of36 (Int.toNat x108) (x114.length - (Int.toNat x108)) x109 x110 x111 x112 x113 x115 x116 x108 1 x114 (fun z131 z132 z133 z134 =>
    gd (inS z131 (lenI z134.length) z134.length) <|
    gd (inS 0 z131 ((List.take (Int.toNat z131) z134) ++ (List.replicate (z134.length - (Int.toNat z131)) 0) ++ (List.drop ((Int.toNat z131) + (z134.length - (Int.toNat z131))) z134)).length) <|
    k0 0 (Int.toNat z131) z131 (Int.toNat x108) (x114.length - (Int.toNat x108)) z132 z133 ((List.take (Int.toNat z131) z134) ++ (List.replicate (z134.length - (Int.toNat z131)) 0) ++ (List.drop ((Int.toNat z131) + (z134.length - (Int.toNat z131))) z134)))
  else
  g0 (addI .i64 x108 1)
 else
 k1 x108 (ltI x108 (lenI x114.length))
abbrev Tf59L2of36x2 (R : Type) := Nat → Nat → Int → Int → Int → Int → Int → List Int → Nat → Nat → List Int → Int → List Int → List Int → Int → (Int → Int → Int → Bool → Bool → Option R) → (Int → Bool → Option R) → Option R
noncomputable def f59L2of36x2 {R : Type} (x143 x144 : Nat) (x145 x147 x148 x149 x150 : Int) (x151 : List Int) (x152 x153 : Nat) (x154 : List Int) (x155 : Int) (x156 x157 : List Int) (k0 : Int → Int → Int → Bool → Bool → Option R) (k1 : Int → Bool → Option R) (g0 : Int → Option R) (x146 : Int) : Option R :=
 bif (ltI x146 x145) then
  gd (inR x146 x144) <|
  bif (eqI (List.getD x154 (x143 + (Int.toNat x146)) 0) x155) then
   k0 x146 x146 x146 (ltI x146 x145) (eqI (List.getD x154 (x143 + (Int.toNat x146)) 0) x155)
  else
  g0 (addI .i64 x146 1)
 else
 k1 x146 (ltI x146 x145)
abbrev Tf86L5of36x2 (R : Type) := Nat → Nat → Int → Int → Int → Int → List Int → Nat → Nat → Int → List Int → Int → Int → List Int → (Int → Int → Bool → List Int → Option R) → Option R
noncomputable def f86L5of36x2 {R : Type} (x164 x165 : Nat) (x168 x169 x170 x171 : Int) (x172 : List Int) (x173 x174 : Nat) (x176 : Int) (x177 : List Int) (k0 : Int → Int → Bool → List Int → Option R) (g0 : Int → Int → List Int → Option R) (x166 x167 : Int) (x175 : List Int) : Option R :=
 bif (ltI x167 (lenI x165)) then
  gd (inR x167 x165) <|
  bif (notB (eqI (List.getD x175 (x164 + (Int.toNat x167)) 0) x176)) then
   gd (inR x166 x165) <|
   g0 (addI .i64 x166 1) (addI .i64 x167 1) (List.set x175 (x164 + (Int.toNat x166)) (List.getD x175 (x164 + (Int.toNat x167)) 0))
  else
  g0 x166 (addI .i64 x167 1) x175
 else
 k0 x166 x167 (ltI x167 (lenI x165)) x175
abbrev Tf69Cof36 (R : Type) := Int → Int → Int → Int → Int → List Int → List Int → (List Int → Option R) → (Nat → Nat → List Int → Option R) → (Nat → Nat → Nat → Nat → List Int → Option R) → Option R
noncomputable def f69Cof36 {R : Type} (sf59L2of36 : Tf59L2of36 R) (sf86L5of36 : Tf86L5of36 R) (sf85L4of36 : Tf85L4of36 R) (sf59L2of36x2 : Tf59L2of36x2 R) (sf86L5of36x2 : Tf86L5of36x2 R) (x66 x67 x68 x69 x70 : Int) (x71 x72 : List Int) (k0 : List Int → Option R) (k1 : Nat → Nat → List Int → Option R) (k2 : Nat → Nat → Nat → Nat → List Int → Option R) : Option R :=
 gd (okL x72.length) <|
 bif (ltI (lenI (sortI x72).length) 2) then
  sf59L2of36 (lenI (sortI x72).length) x67 x68 x69 x70 x71 (sortI x72) x66 [] [] 0 (fun z86 z87 z88 z89 z90 =>
   bif (eqI z86 (-1)) then
    k0 (sortI x72)
   else
   sf86L5of36 x67 x68 x69 x70 x71 x66 [] z86 (addI .i64 z86 1) (sortI x72) (fun z102 z103 z104 z105 =>
    gd (inS z102 (lenI z105.length) z105.length) <|
    gd (inS 0 z102 ((List.take (Int.toNat z102) z105) ++ (List.replicate (z105.length - (Int.toNat z102)) 0) ++ (List.drop ((Int.toNat z102) + (z105.length - (Int.toNat z102))) z105)).length) <|
    k1 0 (Int.toNat z102) ((List.take (Int.toNat z102) z105) ++ (List.replicate (z105.length - (Int.toNat z102)) 0) ++ (List.drop ((Int.toNat z102) + (z105.length - (Int.toNat z102))) z105)))) (fun z106 z107 =>
   k0 (sortI x72))
 else
 sf85L4of36 x67 x68 x69 x70 x71 (sortI x72) x66 [] 1 (fun z135 z136 z137 z138 z139 z140 z141 z142 =>
  sf59L2of36x2 z135 z136 (lenI z136) x67 x68 x69 x70 x71 z135 z136 z142 x66 [] [] 0 (fun z159 z160 z161 z162 z163 =>
   bif (eqI z159 (-1)) then
    k2 z135 z136 z135 z136 z142
   else
   sf86L5of36x2 z135 z136 x67 x68 x69 x70 x71 z135 z136 x66 [] z159 (addI .i64 z159 1) z142 (fun z179 z180 z181 z182 =>
    gd (inS z179 (lenI z136) z136) <|
    gd (inS 0 z179 z136) <|
    k2 z135 (Int.toNat z179) z135 z136 ((List.take (z135 + (Int.toNat z179)) z182) ++ (List.replicate (z136 - (Int.toNat z179)) 0) ++ (List.drop ((z135 + (Int.toNat z179)) + (z136 - (Int.toNat z179))) z182)))) (fun z183 z184 =>
   k2 z135 z136 z135 z136 z142)) (fun z185 z186 =>
  sf59L2of36 (lenI (sortI x72).length) x67 x68 x69 x70 x71 (sortI x72) x66 [] [] 0 (fun z187 z188 z189 z190 z191 =>
   bif (eqI z187 (-1)) then
    k0 (sortI x72)
   else
   sf86L5of36 x67 x68 x69 x70 x71 x66 [] z187 (addI .i64 z187 1) (sortI x72) (fun z192 z193 z194 z195 =>
    gd (inS z192 (lenI z195.length) z195.length) <|
    gd (inS 0 z192 ((List.take (Int.toNat z192) z195) ++ (List.replicate (z195.length - (Int.toNat z192)) 0) ++ (List.drop ((Int.toNat z192) + (z195.length - (Int.toNat z192))) z195)).length) <|
    k1 0 (Int.toNat z192) ((List.take (Int.toNat z192) z195) ++ (List.replicate (z195.length - (Int.toNat z192)) 0) ++ (List.drop ((Int.toNat z192) + (z195.length - (Int.toNat z192))) z195)))) (fun z196 z197 =>
   k0 (sortI x72)))
abbrev Tf67L4of36 (R : Type) := Int → Int → Int → Int → Int → Int → Int → Int → Int → Int → List Int → Int → Int → Int → Int → List Int → Int → List Int → (Int → Bool → List Int → Option R) → Option R
noncomputable def f67L4of36 {R : Type} (sf65Cof36 : Tf65Cof36 R) (x248 x249 x251 x252 x253 x254 x255 x256 x257 x258 : Int) (x259 : List Int) (x260 x261 x262 x263 : Int) (x264 : List Int) (k0 : Int → Bool → List Int → Option R) (g0 : Int → List Int → Option R) (x250 : Int) (x265 : List Int) : Option R :=
 bif (eqI x248 0) then
  bif (ltI x250 x258) then
   sf65Cof36 6 (-1) x249 x250 x260 x261 x262 x263 x264 x265 (fun z268 =>
    g0 (addI .i64 x250 x256) z268)
  else
  k0 x250 (ltI x250 x258) x265
 else
 k0 x250 false x265
abbrev Tf67Cof36 (R : Type) := Int → Int → Int → Int → Int → Int → Int → Int → Int → Int → List Int → Int → Int → Int → Int → List Int → List Int → (List Int → Option R) → Option R
noncomputable def f67Cof36 {R : Type} (sf65Cof36 : Tf65Cof36 R) (sf68Cof36 : Tf68Cof36 R) (sf67L4of36 : Tf67L4of36 R) (x226 x227 x228 x229 x230 x231 x232 x233 x234 x235 : Int) (x236 : List Int) (x237 x238 x239 x240 : Int) (x241 x242 : List Int) (k0 : List Int → Option R) : Option R :=
 sf65Cof36 1 x226 x227 0 x237 x238 x239 x240 x241 x242 (fun z245 =>
  sf65Cof36 2 x226 x227 0 x237 x238 x239 x240 x241 z245 (fun z246 =>
   sf68Cof36 x226 x227 x231 x237 x238 x239 x240 x241 z246 (fun z247 =>
    sf67L4of36 x226 x227 x228 x229 x230 x231 x232 x233 x234 x235 x236 x237 x238 x239 x240 x241 x227 z247 (fun z269 z270 z271 =>
     k0 z271))))
noncomputable def f36T {R : Type} (p50 : T50 R) (sf64Cof36 : Tf64Cof36 R) (sf65Cof36 : Tf65Cof36 R) (sf69Cof36 : Tf69Cof36 R) (sf67Cof36 : Tf67Cof36 R) (a1 a2 a3 a4 : Int) (a6 : List Int) (a7 : Int) (kr : List Int → Option R) : Option R :=
 p50 a1 a2 a3 a4 a6 a7 (fun y8 y9 y10 y11 y12 =>
  bif (neI y12 0) then
   kr []
  else
  bif (eqI y8 3) then
   sf64Cof36 y9 y10 a1 a2 a3 a4 a6 [] (fun z64 =>
    bif (eqI y11 3) then
     sf65Cof36 1 y9 (subI .i64 y10 1) 0 a1 a2 a3 a4 a6 z64 (fun z65 =>
      sf69Cof36 a7 a1 a2 a3 a4 a6 z65 (fun z198 =>
       kr z198) (fun z199 z200 z201 =>
       kr (List.take z200 (List.drop z199 z201))) (fun z202 z203 z204 z205 z206 =>
       kr (List.take z203 (List.drop z202 z206))))
    else
    sf69Cof36 a7 a1 a2 a3 a4 a6 z64 (fun z207 =>
     kr z207) (fun z208 z209 z210 =>
     kr (List.take z209 (List.drop z208 z210))) (fun z211 z212 z213 z214 z215 =>
     kr (List.take z212 (List.drop z211 z215))))
  else
  bif (eqI y8 7) then
   sf64Cof36 (subI .i64 a1 1) y10 a1 a2 a3 a4 a6 [] (fun z216 =>
    sf69Cof36 a7 a1 a2 a3 a4 a6 z216 (fun z217 =>
     kr z217) (fun z218 z219 z220 =>
     kr (List.take z219 (List.drop z218 z220))) (fun z221 z222 z223 z224 z225 =>
     kr (List.take z222 (List.drop z221 z225))))
  else
  bif (eqI y8 4) then
   bif (eqI y8 4) then
    sf67Cof36 y9 y10 y8 y9 y10 y11 a1 a2 a3 a4 a6 a1 a2 a3 a4 a6 [] (fun z272 =>
     bif (eqI y8 4) then
      bif (ltI (addI .i64 y9 1) a1) then
       bif (ltI y10 a2) then
        sf67Cof36 (addI .i64 y9 1) y10 y8 y9 y10 y11 a1 a2 a3 a4 a6 a1 a2 a3 a4 a6 z272 (fun z273 =>
         sf69Cof36 a7 a1 a2 a3 a4 a6 z273 (fun z274 =>
          kr z274) (fun z275 z276 z277 =>
          kr (List.take z276 (List.drop z275 z277))) (fun z278 z279 z280 z281 z282 =>
          kr (List.take z279 (List.drop z278 z282))))
       else
       sf69Cof36 a7 a1 a2 a3 a4 a6 z272 (fun z283 =>
        kr z283) (fun z284 z285 z286 =>
        kr (List.take z285 (List.drop z284 z286))) (fun z287 z288 z289 z290 z291 =>
        kr (List.take z288 (List.drop z287 z291)))
      else
      sf69Cof36 a7 a1 a2 a3 a4 a6 z272 (fun z292 =>
       kr z292) (fun z293 z294 z295 =>
       kr (List.take z294 (List.drop z293 z295))) (fun z296 z297 z298 z299 z300 =>
       kr (List.take z297 (List.drop z296 z300)))
     else
     bif (ltI y9 a1) then
      bif (ltI (addI .i64 y10 1) a2) then
       sf67Cof36 y9 (addI .i64 y10 1) y8 y9 y10 y11 a1 a2 a3 a4 a6 a1 a2 a3 a4 a6 z272 (fun z301 =>
        sf69Cof36 a7 a1 a2 a3 a4 a6 z301 (fun z302 =>
         kr z302) (fun z303 z304 z305 =>
         kr (List.take z304 (List.drop z303 z305))) (fun z306 z307 z308 z309 z310 =>
         kr (List.take z307 (List.drop z306 z310))))
      else
      sf69Cof36 a7 a1 a2 a3 a4 a6 z272 (fun z311 =>
       kr z311) (fun z312 z313 z314 =>
       kr (List.take z313 (List.drop z312 z314))) (fun z315 z316 z317 z318 z319 =>
       kr (List.take z316 (List.drop z315 z319)))
     else
     sf69Cof36 a7 a1 a2 a3 a4 a6 z272 (fun z320 =>
      kr z320) (fun z321 z322 z323 =>
      kr (List.take z322 (List.drop z321 z323))) (fun z324 z325 z326 z327 z328 =>
      kr (List.take z325 (List.drop z324 z328))))
   else
   sf69Cof36 a7 a1 a2 a3 a4 a6 [] (fun z329 =>
    kr z329) (fun z330 z331 z332 =>
    kr (List.take z331 (List.drop z330 z332))) (fun z333 z334 z335 z336 z337 =>
    kr (List.take z334 (List.drop z333 z337)))
  else
  bif (eqI y8 5) then
   sf67Cof36 y9 y10 y8 y9 y10 y11 a1 a2 a3 a4 a6 a1 a2 a3 a4 a6 [] (fun z338 =>
    bif (eqI y8 4) then
     bif (ltI (addI .i64 y9 1) a1) then
      bif (ltI y10 a2) then
       sf67Cof36 (addI .i64 y9 1) y10 y8 y9 y10 y11 a1 a2 a3 a4 a6 a1 a2 a3 a4 a6 z338 (fun z339 =>
        sf69Cof36 a7 a1 a2 a3 a4 a6 z339 (fun z340 =>
         kr z340) (fun z341 z342 z343 =>
         kr (List.take z342 (List.drop z341 z343))) (fun z344 z345 z346 z347 z348 =>
         kr (List.take z345 (List.drop z344 z348))))
      else
      sf69Cof36 a7 a1 a2 a3 a4 a6 z338 (fun z349 =>
       kr z349) (fun z350 z351 z352 =>
       kr (List.take z351 (List.drop z350 z352))) (fun z353 z354 z355 z356 z357 =>
       kr (List.take z354 (List.drop z353 z357)))
     else
     sf69Cof36 a7 a1 a2 a3 a4 a6 z338 (fun z358 =>
      kr z358) (fun z359 z360 z361 =>
      kr (List.take z360 (List.drop z359 z361))) (fun z362 z363 z364 z365 z366 =>
      kr (List.take z363 (List.drop z362 z366)))
    else
    bif (ltI y9 a1) then
     bif (ltI (addI .i64 y10 1) a2) then
      sf67Cof36 y9 (addI .i64 y10 1) y8 y9 y10 y11 a1 a2 a3 a4 a6 a1 a2 a3 a4 a6 z338 (fun z367 =>
       sf69Cof36 a7 a1 a2 a3 a4 a6 z367 (fun z368 =>
        kr z368) (fun z369 z370 z371 =>
        kr (List.take z370 (List.drop z369 z371))) (fun z372 z373 z374 z375 z376 =>
        kr (List.take z373 (List.drop z372 z376))))
     else
     sf69Cof36 a7 a1 a2 a3 a4 a6 z338 (fun z377 =>
      kr z377) (fun z378 z379 z380 =>
      kr (List.take z379 (List.drop z378 z380))) (fun z381 z382 z383 z384 z385 =>
      kr (List.take z382 (List.drop z381 z385)))
    else
    sf69Cof36 a7 a1 a2 a3 a4 a6 z338 (fun z386 =>
     kr z386) (fun z387 z388 z389 =>
     kr (List.take z388 (List.drop z387 z389))) (fun z390 z391 z392 z393 z394 =>
     kr (List.take z391 (List.drop z390 z394))))
  else
  sf69Cof36 a7 a1 a2 a3 a4 a6 [] (fun z395 =>
   kr z395) (fun z396 z397 z398 =>
   kr (List.take z397 (List.drop z396 z398))) (fun z399 z400 z401 z402 z403 =>
   kr (List.take z400 (List.drop z399 z403))))
noncomputable def f65Cof36S {R : Type} (M : Nat) (x43 x44 x45 x46 x47 x48 x49 x50 : Int) (x51 x52 : List Int) (k0 : List Int → Option R) : Option R :=
  f65Cof36 (f83 M) x43 x44 x45 x46 x47 x48 x49 x50 x51 x52 k0
noncomputable def f68Cof36S {R : Type} (M : Nat) (x33 x34 x35 x36 x37 x38 x39 : Int) (x40 x41 : List Int) (k0 : List Int → Option R) : Option R :=
  f68Cof36 (f65Cof36S M) x33 x34 x35 x36 x37 x38 x39 x40 x41 k0
noncomputable def f64L1of36S {R : Type} (M : Nat) (x22 x23 x24 x26 x27 x28 x29 : Int) (x30 : List Int) (x25 : Int) (x31 : List Int) (k0 : Int → Bool → List Int → Option R) : Option R :=
  rounds (fun (g : Int × (List Int) → Option R) (a : Int × (List Int)) => f64L1of36 (f68Cof36S M) x22 x23 x24 x26 x27 x28 x29 x30 k0 (fun y0 y1 => g (y0, y1)) a.1 a.2) M (x25, x31)
noncomputable def f64Cof36S {R : Type} (M : Nat) (x13 x14 x15 x16 x17 x18 : Int) (x19 x20 : List Int) (k0 : List Int → Option R) : Option R :=
  f64Cof36 (f64L1of36S M) x13 x14 x15 x16 x17 x18 x19 x20 k0
noncomputable def f59L2of36S {R : Type} (M : Nat) (x74 x76 x77 x78 x79 : Int) (x80 x81 : List Int) (x82 : Int) (x83 x84 : List Int) (x75 : Int) (k0 : Int → Int → Int → Bool → Bool → Option R) (k1 : Int → Bool → Option R) : Option R :=
  rounds (fun (g : Int → Option R) (a : Int) => f59L2of36 x74 x76 x77 x78 x79 x80 x81 x82 x83 x84 k0 k1 (fun y0 => g y0) a) M x75
noncomputable def f86L5of36S {R : Type} (M : Nat) (x93 x94 x95 x96 : Int) (x97 : List Int) (x99 : Int) (x100 : List Int) (x91 x92 : Int) (x98 : List Int) (k0 : Int → Int → Bool → List Int → Option R) : Option R :=
  rounds (fun (g : Int × Int × (List Int) → Option R) (a : Int × Int × (List Int)) => f86L5of36 x93 x94 x95 x96 x97 x99 x100 k0 (fun y0 y1 y2 => g (y0, y1, y2)) a.1 a.2.1 a.2.2) M (x91, x92, x98)
noncomputable def f85L9of36S {R : Type} (M : Nat) (x119 x120 : Nat) (x122 x123 x124 x125 : Int) (x126 : List Int) (x128 : Int) (x129 : List Int) (x118 x121 : Int) (x127 : List Int) (k0 : Int → Int → Bool → List Int → Option R) : Option R :=
  rounds (fun (g : Int × Int × (List Int) → Option R) (a : Int × Int × (List Int)) => f85L9of36 x119 x120 x122 x123 x124 x125 x126 x128 x129 k0 (fun y0 y1 y2 => g (y0, y1, y2)) a.1 a.2.1 a.2.2) M (x118, x121, x127)
noncomputable def f85L4of36S {R : Type} (M : Nat) (x109 x110 x111 x112 : Int) (x113 x114 : List Int) (x115 : Int) (x116 : List Int) (x108 : Int) (k0 : Nat → Nat → Int → Nat → Nat → Int → Bool → List Int → Option R) (k1 : Int → Bool → Option R) : Option R :=
  rounds (fun (g : Int → Option R) (a : Int) => f85L4of36 (f85L9of36S M) x109 x110 x111 x112 x113 x114 x115 x116 k0 k1 (fun y0 => g y0) a) M x108
noncomputable def f59L2of36x2S {R : Type} (M : Nat) (x143 x144 : Nat) (x145 x147 x148 x149 x150 : Int) (x151 : List Int) (x152 x153 : Nat) (x154 : List Int) (x155 : Int) (x156 x157 : List Int) (x146 : Int) (k0 : Int → Int → Int → Bool → Bool → Option R) (k1 : Int → Bool → Option R) : Option R :=
  rounds (fun (g : Int → Option R) (a : Int) => f59L2of36x2 x143 x144 x145 x147 x148 x149 x150 x151 x152 x153 x154 x155 x156 x157 k0 k1 (fun y0 => g y0) a) M x146
noncomputable def f86L5of36x2S {R : Type} (M : Nat) (x164 x165 : Nat) (x168 x169 x170 x171 : Int) (x172 : List Int) (x173 x174 : Nat) (x176 : Int) (x177 : List Int) (x166 x167 : Int) (x175 : List Int) (k0 : Int → Int → Bool → List Int → Option R) : Option R :=
  rounds (fun (g : Int × Int × (List Int) → Option R) (a : Int × Int × (List Int)) => f86L5of36x2 x164 x165 x168 x169 x170 x171 x172 x173 x174 x176 x177 k0 (fun y0 y1 y2 => g (y0, y1, y2)) a.1 a.2.1 a.2.2) M (x166, x167, x175)
noncomputable def f69Cof36S {R : Type} (M : Nat) (x66 x67 x68 x69 x70 : Int) (x71 x72 : List Int) (k0 : List Int → Option R) (k1 : Nat → Nat → List Int → Option R) (k2 : Nat → Nat → Nat → Nat → List Int → Option R) : Option R :=
  f69Cof36 (f59L2of36S M) (f86L5of36S M) (f85L4of36S M) (f59L2of36x2S M) (f86L5of36x2S M) x66 x67 x68 x69 x70 x71 x72 k0 k1 k2
noncomputable def f67L4of36S {R : Type} (M : Nat) (x248 x249 x251 x252 x253 x254 x255 x256 x257 x258 : Int) (x259 : List Int) (x260 x261 x262 x263 : Int) (x264 : List Int) (x250 : Int) (x265 : List Int) (k0 : Int → Bool → List Int → Option R) : Option R :=
  rounds (fun (g : Int × (List Int) → Option R) (a : Int × (List Int)) => f67L4of36 (f65Cof36S M) x248 x249 x251 x252 x253 x254 x255 x256 x257 x258 x259 x260 x261 x262 x263 x264 k0 (fun y0 y1 => g (y0, y1)) a.1 a.2) M (x250, x265)
noncomputable def f67Cof36S {R : Type} (M : Nat) (x226 x227 x228 x229 x230 x231 x232 x233 x234 x235 : Int) (x236 : List Int) (x237 x238 x239 x240 : Int) (x241 x242 : List Int) (k0 : List Int → Option R) : Option R :=
  f67Cof36 (f65Cof36S M) (f68Cof36S M) (f67L4of36S M) x226 x227 x228 x229 x230 x231 x232 x233 x234 x235 x236 x237 x238 x239 x240 x241 x242 k0
noncomputable def f36 {R : Type} (M : Nat) (a1 a2 a3 a4 : Int) (a6 : List Int) (a7 : Int) (kr : List Int → Option R) : Option R :=
  f36T (f50 M) (f64Cof36S M) (f65Cof36S M) (f69Cof36S M) (f67Cof36S M) a1 a2 a3 a4 a6 a7 kr
noncomputable def w36 (P : (R : Type) → T36 R) : Fk := fun R xs k => match xs with
  | [.agg [.int .i64 a1, .int .i64 a2, .int .i64 a3, .int .i64 a4, .ints _ .i64 a6], .int .i64 a7] => P R a1 a2 a3 a4 a6 a7 (fun y0 => k [.ints .new .i64 y0])
  | _ => none
abbrev qf65Cof360 (t53 : Tag) (p0 p1 p2 p3 p4 p5 p6 p7 : Int) (p8 p9 : List Int) : St := { t := [(0, .ptr 0 0), (1, .int .i64 p0), (2, .int .i64 p1), (3, .int .i64 p2), (4, .int .i64 p3)], h := [(0, .cells [.int .i64 p4, .int .i64 p5, .int .i64 p6, .int .i64 p7, .ints t53 .i64 p8, .own 1]), (1, .ints .i64 p9)], fz := [], nx := 2, lo := 1 }
abbrev ef65Cof360 (t53 : Tag) (p0 p1 p2 p3 : Int) (p4 p5 : List Int) : St := { t := [(0, .tup [])], h := [(0, .cells [.int .i64 p0, .int .i64 p1, .int .i64 p2, .int .i64 p3, .ints t53 .i64 p4, .own 1]), (1, .ints .i64 p5)], fz := [], nx := 2, lo := 1 }
noncomputable def smf65Cof36 (S : (R : Type) → Tf65Cof36 R) (fb : BT) : Sc := { d := 2, f := 65, p := (qf65Cof360 .frz 0 0 0 0 0 0 0 0 [] []), s := fun R l k => match l with
  | .int x43 :: .int x44 :: .int x45 :: .int x46 :: .int x47 :: .int x48 :: .int x49 :: .int x50 :: .ints t53 x51 :: .ints _ x52 :: [] => S R x43 x44 x45 x46 x47 x48 x49 x50 x51 x52 (fun z0 => k [] (ef65Cof360 t53 x47 x48 x49 x50 x51 z0))
  | l => match fillS (qf65Cof360 .frz 0 0 0 0 0 0 0 0 [] []) l with
    | some st => fb R st k
    | none => none }
abbrev qf68Cof360 (t42 : Tag) (p0 p1 p2 p3 p4 p5 p6 : Int) (p7 p8 : List Int) : St := { t := [(0, .ptr 0 0), (1, .int .i64 p0), (2, .int .i64 p1), (3, .int .i64 p2)], h := [(0, .cells [.int .i64 p3, .int .i64 p4, .int .i64 p5, .int .i64 p6, .ints t42 .i64 p7, .own 1]), (1, .ints .i64 p8)], fz := [], nx := 2, lo := 1 }
abbrev ef68Cof360 (t42 : Tag) (p0 p1 p2 p3 : Int) (p4 p5 : List Int) : St := { t := [(0, .tup [])], h := [(0, .cells [.int .i64 p0, .int .i64 p1, .int .i64 p2, .int .i64 p3, .ints t42 .i64 p4, .own 1]), (1, .ints .i64 p5)], fz := [], nx := 2, lo := 1 }
noncomputable def smf68Cof36 (S : (R : Type) → Tf68Cof36 R) (fb : BT) : Sc := { d := 3, f := 68, p := (qf68Cof360 .frz 0 0 0 0 0 0 0 [] []), s := fun R l k => match l with
  | .int x33 :: .int x34 :: .int x35 :: .int x36 :: .int x37 :: .int x38 :: .int x39 :: .ints t42 x40 :: .ints _ x41 :: [] => S R x33 x34 x35 x36 x37 x38 x39 x40 x41 (fun z0 => k [] (ef68Cof360 t42 x36 x37 x38 x39 x40 z0))
  | l => match fillS (qf68Cof360 .frz 0 0 0 0 0 0 0 [] []) l with
    | some st => fb R st k
    | none => none }
abbrev qf64L1of360 (t32 : Tag) (p0 p1 p2 p3 p4 p5 p6 p7 : Int) (p8 p9 : List Int) : St := { t := [(0, .ptr 0 0), (1, .int .i64 p0), (2, .int .i64 p1), (11, .int .i64 p2), (12, .int .i64 p3)], h := [(0, .cells [.int .i64 p4, .int .i64 p5, .int .i64 p6, .int .i64 p7, .ints t32 .i64 p8, .own 1]), (1, .ints .i64 p9)], fz := [], nx := 2, lo := 1 }
abbrev ef64L1of360 (t32 : Tag) (p0 p1 p2 p3 : Int) (p4 : Bool) (p5 p6 p7 p8 : Int) (p9 p10 : List Int) : St := { t := [(0, .ptr 0 0), (1, .int .i64 p0), (2, .int .i64 p1), (11, .int .i64 p2), (12, .int .i64 p3), (13, .bool p4)], h := [(0, .cells [.int .i64 p5, .int .i64 p6, .int .i64 p7, .int .i64 p8, .ints t32 .i64 p9, .own 1]), (1, .ints .i64 p10)], fz := [], nx := 2, lo := 1 }
noncomputable def smf64L1of36 (S : (R : Type) → Tf64L1of36 R) (fb : LOT) : Sm := { d := 4, f := 64, r := 1, p := (qf64L1of360 .frz 0 0 0 0 0 0 0 0 [] []), s := fun R l k => match l with
  | .int x22 :: .int x23 :: .int x24 :: .int x25 :: .int x26 :: .int x27 :: .int x28 :: .int x29 :: .ints t32 x30 :: .ints _ x31 :: [] => S R x22 x23 x24 x26 x27 x28 x29 x30 x25 x31 (fun z0 z1 z2 => k (.exit 0) (ef64L1of360 t32 x22 x23 x24 z0 z1 x26 x27 x28 x29 x30 z2))
  | l => match fillS (qf64L1of360 .frz 0 0 0 0 0 0 0 0 [] []) l with
    | some st => fb R 4 64 1 st k
    | none => none }
abbrev qf64Cof360 (t21 : Tag) (p0 p1 p2 p3 p4 p5 : Int) (p6 p7 : List Int) : St := { t := [(0, .ptr 0 0), (1, .int .i64 p0), (2, .int .i64 p1)], h := [(0, .cells [.int .i64 p2, .int .i64 p3, .int .i64 p4, .int .i64 p5, .ints t21 .i64 p6, .own 1]), (1, .ints .i64 p7)], fz := [], nx := 2, lo := 1 }
abbrev ef64Cof360 (t21 : Tag) (p0 p1 p2 p3 : Int) (p4 p5 : List Int) : St := { t := [(0, .tup [])], h := [(0, .cells [.int .i64 p0, .int .i64 p1, .int .i64 p2, .int .i64 p3, .ints t21 .i64 p4, .own 1]), (1, .ints .i64 p5)], fz := [], nx := 2, lo := 1 }
noncomputable def smf64Cof36 (S : (R : Type) → Tf64Cof36 R) (fb : BT) : Sc := { d := 4, f := 64, p := (qf64Cof360 .frz 0 0 0 0 0 0 [] []), s := fun R l k => match l with
  | .int x13 :: .int x14 :: .int x15 :: .int x16 :: .int x17 :: .int x18 :: .ints t21 x19 :: .ints _ x20 :: [] => S R x13 x14 x15 x16 x17 x18 x19 x20 (fun z0 => k [] (ef64Cof360 t21 x15 x16 x17 x18 x19 z0))
  | l => match fillS (qf64Cof360 .frz 0 0 0 0 0 0 [] []) l with
    | some st => fb R st k
    | none => none }
abbrev qf59L2of360 (t85 : Tag) (p0 p1 p2 p3 p4 p5 : Int) (p6 p7 : List Int) (p8 : Int) (p9 p10 : List Int) : St := { t := [(0, .own 1), (1, .fn 87 [] [.ptr 2 0]), (7, .int .i64 p0), (8, .int .i64 p1)], h := [(0, .cells [.int .i64 p2, .int .i64 p3, .int .i64 p4, .int .i64 p5, .ints t85 .i64 p6, .own 1]), (1, .ints .i64 p7), (2, .cells [.int .i64 p8]), (3, .ints .i64 p9), (4, .ints .i64 p10)], fz := [], nx := 5, lo := 5 }
abbrev ef59L2of360 (t85 : Tag) (p0 p1 p2 p3 : Int) (p4 p5 : Bool) (p6 p7 p8 p9 : Int) (p10 p11 : List Int) (p12 : Int) (p13 p14 : List Int) : St := { t := [(0, .own 1), (1, .fn 87 [] [.ptr 2 0]), (4, .int .i64 p0), (5, .int .i64 p1), (7, .int .i64 p2), (8, .int .i64 p3), (9, .bool p4), (16, .bool p5)], h := [(0, .cells [.int .i64 p6, .int .i64 p7, .int .i64 p8, .int .i64 p9, .ints t85 .i64 p10, .own 1]), (1, .ints .i64 p11), (2, .cells [.int .i64 p12]), (3, .ints .i64 p13), (4, .ints .i64 p14)], fz := [], nx := 5, lo := 5 }
abbrev ef59L2of361 (t85 : Tag) (p0 p1 : Int) (p2 : Bool) (p3 p4 p5 p6 : Int) (p7 p8 : List Int) (p9 : Int) (p10 p11 : List Int) : St := { t := [(0, .own 1), (1, .fn 87 [] [.ptr 2 0]), (7, .int .i64 p0), (8, .int .i64 p1), (9, .bool p2)], h := [(0, .cells [.int .i64 p3, .int .i64 p4, .int .i64 p5, .int .i64 p6, .ints t85 .i64 p7, .own 1]), (1, .ints .i64 p8), (2, .cells [.int .i64 p9]), (3, .ints .i64 p10), (4, .ints .i64 p11)], fz := [], nx := 5, lo := 5 }
noncomputable def smf59L2of36 (S : (R : Type) → Tf59L2of36 R) (fb : LOT) : Sm := { d := 4, f := 59, r := 2, p := (qf59L2of360 .frz 0 0 0 0 0 0 [] [] 0 [] []), s := fun R l k => match l with
  | .int x74 :: .int x75 :: .int x76 :: .int x77 :: .int x78 :: .int x79 :: .ints t85 x80 :: .ints _ x81 :: .int x82 :: .ints _ x83 :: .ints _ x84 :: [] => S R x74 x76 x77 x78 x79 x80 x81 x82 x83 x84 x75 (fun z0 z1 z2 z3 z4 => k .ret (ef59L2of360 t85 z0 z1 x74 z2 z3 z4 x76 x77 x78 x79 x80 x81 x82 x83 x84)) (fun z0 z1 => k (.exit 0) (ef59L2of361 t85 x74 z0 z1 x76 x77 x78 x79 x80 x81 x82 x83 x84))
  | l => match fillS (qf59L2of360 .frz 0 0 0 0 0 0 [] [] 0 [] []) l with
    | some st => fb R 4 59 2 st k
    | none => none }
abbrev qf86L5of360 (t101 : Tag) (p0 p1 p2 p3 p4 p5 : Int) (p6 p7 : List Int) (p8 : Int) (p9 : List Int) : St := { t := [(0, .own 1), (1, .fn 87 [] [.ptr 2 0]), (5, .int .i64 p0), (6, .int .i64 p1)], h := [(0, .cells [.int .i64 p2, .int .i64 p3, .int .i64 p4, .int .i64 p5, .ints t101 .i64 p6, .own 1]), (1, .ints .i64 p7), (2, .cells [.int .i64 p8]), (3, .ints .i64 p9)], fz := [], nx := 4, lo := 4 }
abbrev ef86L5of360 (t101 : Tag) (p0 p1 : Int) (p2 : Bool) (p3 p4 p5 p6 : Int) (p7 p8 : List Int) (p9 : Int) (p10 : List Int) : St := { t := [(0, .own 1), (1, .fn 87 [] [.ptr 2 0]), (5, .int .i64 p0), (6, .int .i64 p1), (19, .bool p2)], h := [(0, .cells [.int .i64 p3, .int .i64 p4, .int .i64 p5, .int .i64 p6, .ints t101 .i64 p7, .own 1]), (1, .ints .i64 p8), (2, .cells [.int .i64 p9]), (3, .ints .i64 p10)], fz := [], nx := 4, lo := 4 }
noncomputable def smf86L5of36 (S : (R : Type) → Tf86L5of36 R) (fb : LOT) : Sm := { d := 5, f := 86, r := 5, p := (qf86L5of360 .frz 0 0 0 0 0 0 [] [] 0 []), s := fun R l k => match l with
  | .int x91 :: .int x92 :: .int x93 :: .int x94 :: .int x95 :: .int x96 :: .ints t101 x97 :: .ints _ x98 :: .int x99 :: .ints _ x100 :: [] => S R x93 x94 x95 x96 x97 x99 x100 x91 x92 x98 (fun z0 z1 z2 z3 => k (.exit 0) (ef86L5of360 t101 z0 z1 z2 x93 x94 x95 x96 x97 z3 x99 x100))
  | l => match fillS (qf86L5of360 .frz 0 0 0 0 0 0 [] [] 0 []) l with
    | some st => fb R 5 86 5 st k
    | none => none }
abbrev qf85L9of360 (t130 : Tag) (p0 : Int) (p1 p2 : Nat) (p3 p4 p5 p6 p7 : Int) (p8 p9 : List Int) (p10 : Int) (p11 : List Int) : St := { t := [(0, .own 1), (3, .int .i64 p0), (4, .owns 1 p1 p2), (5, .int .i64 p3)], h := [(0, .cells [.int .i64 p4, .int .i64 p5, .int .i64 p6, .int .i64 p7, .ints t130 .i64 p8, .own 1]), (1, .ints .i64 p9), (2, .cells [.int .i64 p10]), (3, .ints .i64 p11)], fz := [], nx := 4, lo := 4 }
abbrev ef85L9of360 (t130 : Tag) (p0 : Int) (p1 p2 : Nat) (p3 : Int) (p4 : Bool) (p5 p6 p7 p8 : Int) (p9 p10 : List Int) (p11 : Int) (p12 : List Int) : St := { t := [(0, .own 1), (3, .int .i64 p0), (4, .owns 1 p1 p2), (5, .int .i64 p3), (32, .bool p4)], h := [(0, .cells [.int .i64 p5, .int .i64 p6, .int .i64 p7, .int .i64 p8, .ints t130 .i64 p9, .own 1]), (1, .ints .i64 p10), (2, .cells [.int .i64 p11]), (3, .ints .i64 p12)], fz := [], nx := 4, lo := 4 }
noncomputable def smf85L9of36 (S : (R : Type) → Tf85L9of36 R) (fb : LOT) : Sm := { d := 5, f := 85, r := 9, p := (qf85L9of360 .frz 0 0 0 0 0 0 0 0 [] [] 0 []), s := fun R l k => match l with
  | .int x118 :: .int x119 :: .int x120 :: .int x121 :: .int x122 :: .int x123 :: .int x124 :: .int x125 :: .ints t130 x126 :: .ints _ x127 :: .int x128 :: .ints _ x129 :: [] => S R (x119.toNat) (x120.toNat) x122 x123 x124 x125 x126 x128 x129 x118 x121 x127 (fun z0 z1 z2 z3 => k (.exit 2) (ef85L9of360 t130 z0 (x119.toNat) (x120.toNat) z1 z2 x122 x123 x124 x125 x126 z3 x128 x129))
  | l => match fillS (qf85L9of360 .frz 0 0 0 0 0 0 0 0 [] [] 0 []) l with
    | some st => fb R 5 85 9 st k
    | none => none }
abbrev qf85L4of360 (t117 : Tag) (p0 p1 p2 p3 p4 : Int) (p5 p6 : List Int) (p7 : Int) (p8 : List Int) : St := { t := [(0, .own 1), (3, .int .i64 p0)], h := [(0, .cells [.int .i64 p1, .int .i64 p2, .int .i64 p3, .int .i64 p4, .ints t117 .i64 p5, .own 1]), (1, .ints .i64 p6), (2, .cells [.int .i64 p7]), (3, .ints .i64 p8)], fz := [], nx := 4, lo := 4 }
abbrev ef85L4of360 (t117 : Tag) (p0 p1 : Nat) (p2 : Int) (p3 p4 : Nat) (p5 : Int) (p6 : Bool) (p7 p8 p9 p10 : Int) (p11 p12 : List Int) (p13 : Int) (p14 : List Int) : St := { t := [(0, .own 1), (2, .owns 1 p0 p1), (3, .int .i64 p2), (4, .owns 1 p3 p4), (5, .int .i64 p5), (32, .bool p6)], h := [(0, .cells [.int .i64 p7, .int .i64 p8, .int .i64 p9, .int .i64 p10, .ints t117 .i64 p11, .own 1]), (1, .ints .i64 p12), (2, .cells [.int .i64 p13]), (3, .ints .i64 p14)], fz := [], nx := 4, lo := 4 }
abbrev ef85L4of361 (t117 : Tag) (p0 : Int) (p1 : Bool) (p2 p3 p4 p5 : Int) (p6 p7 : List Int) (p8 : Int) (p9 : List Int) : St := { t := [(0, .own 1), (3, .int .i64 p0), (13, .bool p1)], h := [(0, .cells [.int .i64 p2, .int .i64 p3, .int .i64 p4, .int .i64 p5, .ints t117 .i64 p6, .own 1]), (1, .ints .i64 p7), (2, .cells [.int .i64 p8]), (3, .ints .i64 p9)], fz := [], nx := 4, lo := 4 }
noncomputable def smf85L4of36 (S : (R : Type) → Tf85L4of36 R) (fb : LOT) : Sm := { d := 5, f := 85, r := 4, p := (qf85L4of360 .frz 0 0 0 0 0 [] [] 0 []), s := fun R l k => match l with
  | .int x108 :: .int x109 :: .int x110 :: .int x111 :: .int x112 :: .ints t117 x113 :: .ints _ x114 :: .int x115 :: .ints _ x116 :: [] => S R x109 x110 x111 x112 x113 x114 x115 x116 x108 (fun z0 z1 z2 z3 z4 z5 z6 z7 => k .ret (ef85L4of360 t117 z0 z1 z2 z3 z4 z5 z6 x109 x110 x111 x112 x113 z7 x115 x116)) (fun z0 z1 => k (.exit 0) (ef85L4of361 t117 z0 z1 x109 x110 x111 x112 x113 x114 x115 x116))
  | l => match fillS (qf85L4of360 .frz 0 0 0 0 0 [] [] 0 []) l with
    | some st => fb R 5 85 4 st k
    | none => none }
abbrev qf59L2of36x20 (t158 : Tag) (p0 p1 : Nat) (p2 p3 p4 p5 p6 p7 : Int) (p8 : List Int) (p9 p10 : Nat) (p11 : List Int) (p12 : Int) (p13 p14 : List Int) : St := { t := [(0, .owns 1 p0 p1), (1, .fn 87 [] [.ptr 2 0]), (7, .int .i64 p2), (8, .int .i64 p3)], h := [(0, .cells [.int .i64 p4, .int .i64 p5, .int .i64 p6, .int .i64 p7, .ints t158 .i64 p8, .owns 1 p9 p10]), (1, .ints .i64 p11), (2, .cells [.int .i64 p12]), (3, .ints .i64 p13), (4, .ints .i64 p14)], fz := [], nx := 5, lo := 5 }
abbrev ef59L2of36x20 (t158 : Tag) (p0 p1 : Nat) (p2 p3 p4 p5 : Int) (p6 p7 : Bool) (p8 p9 p10 p11 : Int) (p12 : List Int) (p13 p14 : Nat) (p15 : List Int) (p16 : Int) (p17 p18 : List Int) : St := { t := [(0, .owns 1 p0 p1), (1, .fn 87 [] [.ptr 2 0]), (4, .int .i64 p2), (5, .int .i64 p3), (7, .int .i64 p4), (8, .int .i64 p5), (9, .bool p6), (16, .bool p7)], h := [(0, .cells [.int .i64 p8, .int .i64 p9, .int .i64 p10, .int .i64 p11, .ints t158 .i64 p12, .owns 1 p13 p14]), (1, .ints .i64 p15), (2, .cells [.int .i64 p16]), (3, .ints .i64 p17), (4, .ints .i64 p18)], fz := [], nx := 5, lo := 5 }
abbrev ef59L2of36x21 (t158 : Tag) (p0 p1 : Nat) (p2 p3 : Int) (p4 : Bool) (p5 p6 p7 p8 : Int) (p9 : List Int) (p10 p11 : Nat) (p12 : List Int) (p13 : Int) (p14 p15 : List Int) : St := { t := [(0, .owns 1 p0 p1), (1, .fn 87 [] [.ptr 2 0]), (7, .int .i64 p2), (8, .int .i64 p3), (9, .bool p4)], h := [(0, .cells [.int .i64 p5, .int .i64 p6, .int .i64 p7, .int .i64 p8, .ints t158 .i64 p9, .owns 1 p10 p11]), (1, .ints .i64 p12), (2, .cells [.int .i64 p13]), (3, .ints .i64 p14), (4, .ints .i64 p15)], fz := [], nx := 5, lo := 5 }
noncomputable def smf59L2of36x2 (S : (R : Type) → Tf59L2of36x2 R) (fb : LOT) : Sm := { d := 4, f := 59, r := 2, p := (qf59L2of36x20 .frz 0 0 0 0 0 0 0 0 [] 0 0 [] 0 [] []), s := fun R l k => match l with
  | .int x143 :: .int x144 :: .int x145 :: .int x146 :: .int x147 :: .int x148 :: .int x149 :: .int x150 :: .ints t158 x151 :: .int x152 :: .int x153 :: .ints _ x154 :: .int x155 :: .ints _ x156 :: .ints _ x157 :: [] => S R (x143.toNat) (x144.toNat) x145 x147 x148 x149 x150 x151 (x152.toNat) (x153.toNat) x154 x155 x156 x157 x146 (fun z0 z1 z2 z3 z4 => k .ret (ef59L2of36x20 t158 (x143.toNat) (x144.toNat) z0 z1 x145 z2 z3 z4 x147 x148 x149 x150 x151 (x152.toNat) (x153.toNat) x154 x155 x156 x157)) (fun z0 z1 => k (.exit 0) (ef59L2of36x21 t158 (x143.toNat) (x144.toNat) x145 z0 z1 x147 x148 x149 x150 x151 (x152.toNat) (x153.toNat) x154 x155 x156 x157))
  | l => match fillS (qf59L2of36x20 .frz 0 0 0 0 0 0 0 0 [] 0 0 [] 0 [] []) l with
    | some st => fb R 4 59 2 st k
    | none => none }
abbrev qf86L5of36x20 (t178 : Tag) (p0 p1 : Nat) (p2 p3 p4 p5 p6 p7 : Int) (p8 : List Int) (p9 p10 : Nat) (p11 : List Int) (p12 : Int) (p13 : List Int) : St := { t := [(0, .owns 1 p0 p1), (1, .fn 87 [] [.ptr 2 0]), (5, .int .i64 p2), (6, .int .i64 p3)], h := [(0, .cells [.int .i64 p4, .int .i64 p5, .int .i64 p6, .int .i64 p7, .ints t178 .i64 p8, .owns 1 p9 p10]), (1, .ints .i64 p11), (2, .cells [.int .i64 p12]), (3, .ints .i64 p13)], fz := [], nx := 4, lo := 4 }
abbrev ef86L5of36x20 (t178 : Tag) (p0 p1 : Nat) (p2 p3 : Int) (p4 : Bool) (p5 p6 p7 p8 : Int) (p9 : List Int) (p10 p11 : Nat) (p12 : List Int) (p13 : Int) (p14 : List Int) : St := { t := [(0, .owns 1 p0 p1), (1, .fn 87 [] [.ptr 2 0]), (5, .int .i64 p2), (6, .int .i64 p3), (19, .bool p4)], h := [(0, .cells [.int .i64 p5, .int .i64 p6, .int .i64 p7, .int .i64 p8, .ints t178 .i64 p9, .owns 1 p10 p11]), (1, .ints .i64 p12), (2, .cells [.int .i64 p13]), (3, .ints .i64 p14)], fz := [], nx := 4, lo := 4 }
noncomputable def smf86L5of36x2 (S : (R : Type) → Tf86L5of36x2 R) (fb : LOT) : Sm := { d := 5, f := 86, r := 5, p := (qf86L5of36x20 .frz 0 0 0 0 0 0 0 0 [] 0 0 [] 0 []), s := fun R l k => match l with
  | .int x164 :: .int x165 :: .int x166 :: .int x167 :: .int x168 :: .int x169 :: .int x170 :: .int x171 :: .ints t178 x172 :: .int x173 :: .int x174 :: .ints _ x175 :: .int x176 :: .ints _ x177 :: [] => S R (x164.toNat) (x165.toNat) x168 x169 x170 x171 x172 (x173.toNat) (x174.toNat) x176 x177 x166 x167 x175 (fun z0 z1 z2 z3 => k (.exit 0) (ef86L5of36x20 t178 (x164.toNat) (x165.toNat) z0 z1 z2 x168 x169 x170 x171 x172 (x173.toNat) (x174.toNat) z3 x176 x177))
  | l => match fillS (qf86L5of36x20 .frz 0 0 0 0 0 0 0 0 [] 0 0 [] 0 []) l with
    | some st => fb R 5 86 5 st k
    | none => none }
abbrev qf69Cof360 (t73 : Tag) (p0 p1 p2 p3 p4 : Int) (p5 p6 : List Int) : St := { t := [(0, .ptr 0 0), (1, .int .i64 p0)], h := [(0, .cells [.int .i64 p1, .int .i64 p2, .int .i64 p3, .int .i64 p4, .ints t73 .i64 p5, .own 1]), (1, .ints .i64 p6)], fz := [], nx := 2, lo := 1 }
abbrev ef69Cof360 (t73 : Tag) (p0 p1 p2 p3 : Int) (p4 p5 : List Int) : St := { t := [(0, .tup [.own 1])], h := [(0, .cells [.int .i64 p0, .int .i64 p1, .int .i64 p2, .int .i64 p3, .ints t73 .i64 p4, .own 1]), (1, .ints .i64 p5)], fz := [], nx := 2, lo := 1 }
abbrev ef69Cof361 (t73 : Tag) (p0 p1 : Nat) (p2 p3 p4 p5 : Int) (p6 p7 : List Int) : St := { t := [(0, .tup [.owns 1 p0 p1])], h := [(0, .cells [.int .i64 p2, .int .i64 p3, .int .i64 p4, .int .i64 p5, .ints t73 .i64 p6, .own 1]), (1, .ints .i64 p7)], fz := [], nx := 2, lo := 1 }
abbrev ef69Cof362 (t73 : Tag) (p0 p1 : Nat) (p2 p3 p4 p5 : Int) (p6 : List Int) (p7 p8 : Nat) (p9 : List Int) : St := { t := [(0, .tup [.owns 1 p0 p1])], h := [(0, .cells [.int .i64 p2, .int .i64 p3, .int .i64 p4, .int .i64 p5, .ints t73 .i64 p6, .owns 1 p7 p8]), (1, .ints .i64 p9)], fz := [], nx := 2, lo := 1 }
noncomputable def smf69Cof36 (S : (R : Type) → Tf69Cof36 R) (fb : BT) : Sc := { d := 6, f := 69, p := (qf69Cof360 .frz 0 0 0 0 0 [] []), s := fun R l k => match l with
  | .int x66 :: .int x67 :: .int x68 :: .int x69 :: .int x70 :: .ints t73 x71 :: .ints _ x72 :: [] => S R x66 x67 x68 x69 x70 x71 x72 (fun z0 => k [.own 1] (ef69Cof360 t73 x67 x68 x69 x70 x71 z0)) (fun z0 z1 z2 => k [.owns 1 z0 z1] (ef69Cof361 t73 z0 z1 x67 x68 x69 x70 x71 z2)) (fun z0 z1 z2 z3 z4 => k [.owns 1 z0 z1] (ef69Cof362 t73 z0 z1 x67 x68 x69 x70 x71 z2 z3 z4))
  | l => match fillS (qf69Cof360 .frz 0 0 0 0 0 [] []) l with
    | some st => fb R st k
    | none => none }
abbrev qf67L4of360 (t266 t267 : Tag) (p0 p1 p2 p3 p4 p5 p6 p7 p8 p9 p10 : Int) (p11 : List Int) (p12 p13 p14 p15 : Int) (p16 p17 : List Int) : St := { t := [(0, .int .i64 p0), (1, .int .i64 p1), (2, .ptr 0 0), (4, .ptr 2 0), (7, .int .i64 p2)], h := [(0, .cells [.ptr 3 0]), (1, .cells [.int .i64 p3, .int .i64 p4, .int .i64 p5, .int .i64 p6]), (2, .cells [.int .i64 p7, .int .i64 p8, .int .i64 p9, .int .i64 p10, .ints t266 .i64 p11]), (3, .cells [.int .i64 p12, .int .i64 p13, .int .i64 p14, .int .i64 p15, .ints t267 .i64 p16, .own 4]), (4, .ints .i64 p17)], fz := [], nx := 5, lo := 3 }
abbrev ef67L4of360 (t266 t267 : Tag) (p0 p1 p2 : Int) (p3 : Bool) (p4 p5 p6 p7 p8 p9 p10 p11 : Int) (p12 : List Int) (p13 p14 p15 p16 : Int) (p17 p18 : List Int) : St := { t := [(0, .int .i64 p0), (1, .int .i64 p1), (2, .ptr 0 0), (4, .ptr 2 0), (7, .int .i64 p2), (30, .bool p3)], h := [(0, .cells [.ptr 3 0]), (1, .cells [.int .i64 p4, .int .i64 p5, .int .i64 p6, .int .i64 p7]), (2, .cells [.int .i64 p8, .int .i64 p9, .int .i64 p10, .int .i64 p11, .ints t266 .i64 p12]), (3, .cells [.int .i64 p13, .int .i64 p14, .int .i64 p15, .int .i64 p16, .ints t267 .i64 p17, .own 4]), (4, .ints .i64 p18)], fz := [], nx := 5, lo := 3 }
noncomputable def smf67L4of36 (S : (R : Type) → Tf67L4of36 R) (fb : LOT) : Sm := { d := 4, f := 67, r := 4, p := (qf67L4of360 .frz .frz 0 0 0 0 0 0 0 0 0 0 0 [] 0 0 0 0 [] []), s := fun R l k => match l with
  | .int x248 :: .int x249 :: .int x250 :: .int x251 :: .int x252 :: .int x253 :: .int x254 :: .int x255 :: .int x256 :: .int x257 :: .int x258 :: .ints t266 x259 :: .int x260 :: .int x261 :: .int x262 :: .int x263 :: .ints t267 x264 :: .ints _ x265 :: [] => S R x248 x249 x251 x252 x253 x254 x255 x256 x257 x258 x259 x260 x261 x262 x263 x264 x250 x265 (fun z0 z1 z2 => k (.exit 0) (ef67L4of360 t266 t267 x248 x249 z0 z1 x251 x252 x253 x254 x255 x256 x257 x258 x259 x260 x261 x262 x263 x264 z2))
  | l => match fillS (qf67L4of360 .frz .frz 0 0 0 0 0 0 0 0 0 0 0 [] 0 0 0 0 [] []) l with
    | some st => fb R 4 67 4 st k
    | none => none }
abbrev qf67Cof360 (t243 t244 : Tag) (p0 p1 p2 p3 p4 p5 p6 p7 p8 p9 : Int) (p10 : List Int) (p11 p12 p13 p14 : Int) (p15 p16 : List Int) : St := { t := [(0, .int .i64 p0), (1, .int .i64 p1), (2, .ptr 0 0), (3, .ptr 1 0), (4, .ptr 2 0)], h := [(0, .cells [.ptr 3 0]), (1, .cells [.int .i64 p2, .int .i64 p3, .int .i64 p4, .int .i64 p5]), (2, .cells [.int .i64 p6, .int .i64 p7, .int .i64 p8, .int .i64 p9, .ints t243 .i64 p10]), (3, .cells [.int .i64 p11, .int .i64 p12, .int .i64 p13, .int .i64 p14, .ints t244 .i64 p15, .own 4]), (4, .ints .i64 p16)], fz := [], nx := 5, lo := 3 }
abbrev ef67Cof360 (t243 t244 : Tag) (p0 p1 p2 p3 p4 p5 p6 p7 : Int) (p8 : List Int) (p9 p10 p11 p12 : Int) (p13 p14 : List Int) : St := { t := [(0, .tup [])], h := [(0, .cells [.ptr 3 0]), (1, .cells [.int .i64 p0, .int .i64 p1, .int .i64 p2, .int .i64 p3]), (2, .cells [.int .i64 p4, .int .i64 p5, .int .i64 p6, .int .i64 p7, .ints t243 .i64 p8]), (3, .cells [.int .i64 p9, .int .i64 p10, .int .i64 p11, .int .i64 p12, .ints t244 .i64 p13, .own 4]), (4, .ints .i64 p14)], fz := [], nx := 5, lo := 3 }
noncomputable def smf67Cof36 (S : (R : Type) → Tf67Cof36 R) (fb : BT) : Sc := { d := 4, f := 67, p := (qf67Cof360 .frz .frz 0 0 0 0 0 0 0 0 0 0 [] 0 0 0 0 [] []), s := fun R l k => match l with
  | .int x226 :: .int x227 :: .int x228 :: .int x229 :: .int x230 :: .int x231 :: .int x232 :: .int x233 :: .int x234 :: .int x235 :: .ints t243 x236 :: .int x237 :: .int x238 :: .int x239 :: .int x240 :: .ints t244 x241 :: .ints _ x242 :: [] => S R x226 x227 x228 x229 x230 x231 x232 x233 x234 x235 x236 x237 x238 x239 x240 x241 x242 (fun z0 => k [] (ef67Cof360 t243 t244 x228 x229 x230 x231 x232 x233 x234 x235 x236 x237 x238 x239 x240 x241 z0))
  | l => match fillS (qf67Cof360 .frz .frz 0 0 0 0 0 0 0 0 0 0 [] 0 0 0 0 [] []) l with
    | some st => fb R st k
    | none => none }
theorem f65Cof36_seg {R : Type} (P50 : (R : Type) → T50 R) (P83 : (R : Type) → T83 R) (LO : LOT) (k : List V → St → Option R) (t53 : Tag) (x43 x44 x45 x46 x47 x48 x49 x50 : Int) (x51 x52 : List Int) :
    inlCoreL env (callsL env (tabOf [(50, w50 P50), (83, w83 P83)]) spG (LOs [] LO) [] 2) 65 ((LOs [] LO) R 2 65) (qf65Cof360 t53 x43 x44 x45 x46 x47 x48 x49 x50 x51 x52) k =
      f65Cof36 (P83 R) x43 x44 x45 x46 x47 x48 x49 x50 x51 x52 (fun z0 => k [] (ef65Cof360 t53 x47 x48 x49 x50 x51 z0)) := by kernel_rfl
theorem f68Cof36_seg {R : Type} (P50 : (R : Type) → T50 R) (P83 : (R : Type) → T83 R) (Sf65Cof36 : (R : Type) → Tf65Cof36 R) (Bf65Cof36 : BT) (LO : LOT) (k : List V → St → Option R) (t42 : Tag) (x33 x34 x35 x36 x37 x38 x39 : Int) (x40 x41 : List Int) :
    inlCoreL env (callsL env (tabOf [(50, w50 P50), (83, w83 P83)]) spG (LOs [] LO) [smf65Cof36 Sf65Cof36 Bf65Cof36] 3) 68 ((LOs [] LO) R 3 68) (qf68Cof360 t42 x33 x34 x35 x36 x37 x38 x39 x40 x41) k =
      f68Cof36 (Sf65Cof36 R) x33 x34 x35 x36 x37 x38 x39 x40 x41 (fun z0 => k [] (ef68Cof360 t42 x36 x37 x38 x39 x40 z0)) := by kernel_rfl
theorem f64L1of36_seg {R : Type} (P50 : (R : Type) → T50 R) (P83 : (R : Type) → T83 R) (Sf68Cof36 : (R : Type) → Tf68Cof36 R) (Bf68Cof36 : BT) (LO : LOT) (g : St → Option R) (k : Ex → St → Option R) (t32 : Tag) (x22 x23 x24 x26 x27 x28 x29 : Int) (x30 : List Int) (x25 : Int) (x31 : List Int) :
    execL env (callsL env (tabOf [(50, w50 P50), (83, w83 P83)]) spG (LOs [] LO) [smf68Cof36 Sf68Cof36 Bf68Cof36] 4) 64 ((LOs [] LO) R 4 64) ((loopOf env 64 1).getD .skip) (qf64L1of360 t32 x22 x23 x24 x25 x26 x27 x28 x29 x30 x31) (bodyK env 64 1 g k) =
      f64L1of36 (Sf68Cof36 R) x22 x23 x24 x26 x27 x28 x29 x30 (fun z0 z1 z2 => k (.exit 0) (ef64L1of360 t32 x22 x23 x24 z0 z1 x26 x27 x28 x29 x30 z2)) (fun y0 y1 => g (qf64L1of360 t32 x22 x23 x24 y0 x26 x27 x28 x29 x30 y1)) x25 x31 := by kernel_rfl
theorem f64Cof36_seg {R : Type} (P50 : (R : Type) → T50 R) (P83 : (R : Type) → T83 R) (Sf64L1of36 : (R : Type) → Tf64L1of36 R) (LO : LOT) (k : List V → St → Option R) (t21 : Tag) (x13 x14 x15 x16 x17 x18 : Int) (x19 x20 : List Int) :
    inlCoreL env (callsL env (tabOf [(50, w50 P50), (83, w83 P83)]) spG (LOs [smf64L1of36 Sf64L1of36 LO] LO) [] 4) 64 ((LOs [smf64L1of36 Sf64L1of36 LO] LO) R 4 64) (qf64Cof360 t21 x13 x14 x15 x16 x17 x18 x19 x20) k =
      f64Cof36 (Sf64L1of36 R) x13 x14 x15 x16 x17 x18 x19 x20 (fun z0 => k [] (ef64Cof360 t21 x15 x16 x17 x18 x19 z0)) := by kernel_rfl
theorem f59L2of36_seg {R : Type} (P50 : (R : Type) → T50 R) (P83 : (R : Type) → T83 R) (LO : LOT) (g : St → Option R) (k : Ex → St → Option R) (t85 : Tag) (x74 x76 x77 x78 x79 : Int) (x80 x81 : List Int) (x82 : Int) (x83 x84 : List Int) (x75 : Int) :
    execL env (callsL env (tabOf [(50, w50 P50), (83, w83 P83)]) spG (LOs [] LO) [] 4) 59 ((LOs [] LO) R 4 59) ((loopOf env 59 2).getD .skip) (qf59L2of360 t85 x74 x75 x76 x77 x78 x79 x80 x81 x82 x83 x84) (bodyK env 59 2 g k) =
      f59L2of36 x74 x76 x77 x78 x79 x80 x81 x82 x83 x84 (fun z0 z1 z2 z3 z4 => k .ret (ef59L2of360 t85 z0 z1 x74 z2 z3 z4 x76 x77 x78 x79 x80 x81 x82 x83 x84)) (fun z0 z1 => k (.exit 0) (ef59L2of361 t85 x74 z0 z1 x76 x77 x78 x79 x80 x81 x82 x83 x84)) (fun y0 => g (qf59L2of360 t85 x74 y0 x76 x77 x78 x79 x80 x81 x82 x83 x84)) x75 := by kernel_rfl
theorem f86L5of36_seg {R : Type} (P50 : (R : Type) → T50 R) (P83 : (R : Type) → T83 R) (LO : LOT) (g : St → Option R) (k : Ex → St → Option R) (t101 : Tag) (x93 x94 x95 x96 : Int) (x97 : List Int) (x99 : Int) (x100 : List Int) (x91 x92 : Int) (x98 : List Int) :
    execL env (callsL env (tabOf [(50, w50 P50), (83, w83 P83)]) spG (LOs [] LO) [] 5) 86 ((LOs [] LO) R 5 86) ((loopOf env 86 5).getD .skip) (qf86L5of360 t101 x91 x92 x93 x94 x95 x96 x97 x98 x99 x100) (bodyK env 86 5 g k) =
      f86L5of36 x93 x94 x95 x96 x97 x99 x100 (fun z0 z1 z2 z3 => k (.exit 0) (ef86L5of360 t101 z0 z1 z2 x93 x94 x95 x96 x97 z3 x99 x100)) (fun y0 y1 y2 => g (qf86L5of360 t101 y0 y1 x93 x94 x95 x96 x97 y2 x99 x100)) x91 x92 x98 := by kernel_rfl
theorem f85L9of36_seg {R : Type} (P50 : (R : Type) → T50 R) (P83 : (R : Type) → T83 R) (LO : LOT) (g : St → Option R) (k : Ex → St → Option R) (t130 : Tag) (x119 x120 : Nat) (x122 x123 x124 x125 : Int) (x126 : List Int) (x128 : Int) (x129 : List Int) (x118 x121 : Int) (x127 : List Int) :
    execL env (callsL env (tabOf [(50, w50 P50), (83, w83 P83)]) spG (LOs [] LO) [] 5) 85 ((LOs [] LO) R 5 85) ((loopOf env 85 9).getD .skip) (qf85L9of360 t130 x118 x119 x120 x121 x122 x123 x124 x125 x126 x127 x128 x129) (bodyK env 85 9 g k) =
      f85L9of36 x119 x120 x122 x123 x124 x125 x126 x128 x129 (fun z0 z1 z2 z3 => k (.exit 2) (ef85L9of360 t130 z0 x119 x120 z1 z2 x122 x123 x124 x125 x126 z3 x128 x129)) (fun y0 y1 y2 => g (qf85L9of360 t130 y0 x119 x120 y1 x122 x123 x124 x125 x126 y2 x128 x129)) x118 x121 x127 := by kernel_rfl
theorem f85L4of36_seg {R : Type} (P50 : (R : Type) → T50 R) (P83 : (R : Type) → T83 R) (Sf85L9of36 : (R : Type) → Tf85L9of36 R) (LO : LOT) (g : St → Option R) (k : Ex → St → Option R) (t117 : Tag) (x109 x110 x111 x112 : Int) (x113 x114 : List Int) (x115 : Int) (x116 : List Int) (x108 : Int) :
    execL env (callsL env (tabOf [(50, w50 P50), (83, w83 P83)]) spG (LOs [smf85L9of36 Sf85L9of36 LO] LO) [] 5) 85 ((LOs [smf85L9of36 Sf85L9of36 LO] LO) R 5 85) ((loopOf env 85 4).getD .skip) (qf85L4of360 t117 x108 x109 x110 x111 x112 x113 x114 x115 x116) (bodyK env 85 4 g k) =
      f85L4of36 (Sf85L9of36 R) x109 x110 x111 x112 x113 x114 x115 x116 (fun z0 z1 z2 z3 z4 z5 z6 z7 => k .ret (ef85L4of360 t117 z0 z1 z2 z3 z4 z5 z6 x109 x110 x111 x112 x113 z7 x115 x116)) (fun z0 z1 => k (.exit 0) (ef85L4of361 t117 z0 z1 x109 x110 x111 x112 x113 x114 x115 x116)) (fun y0 => g (qf85L4of360 t117 y0 x109 x110 x111 x112 x113 x114 x115 x116)) x108 := by kernel_rfl
theorem f59L2of36x2_seg {R : Type} (P50 : (R : Type) → T50 R) (P83 : (R : Type) → T83 R) (LO : LOT) (g : St → Option R) (k : Ex → St → Option R) (t158 : Tag) (x143 x144 : Nat) (x145 x147 x148 x149 x150 : Int) (x151 : List Int) (x152 x153 : Nat) (x154 : List Int) (x155 : Int) (x156 x157 : List Int) (x146 : Int) :
    execL env (callsL env (tabOf [(50, w50 P50), (83, w83 P83)]) spG (LOs [] LO) [] 4) 59 ((LOs [] LO) R 4 59) ((loopOf env 59 2).getD .skip) (qf59L2of36x20 t158 x143 x144 x145 x146 x147 x148 x149 x150 x151 x152 x153 x154 x155 x156 x157) (bodyK env 59 2 g k) =
      f59L2of36x2 x143 x144 x145 x147 x148 x149 x150 x151 x152 x153 x154 x155 x156 x157 (fun z0 z1 z2 z3 z4 => k .ret (ef59L2of36x20 t158 x143 x144 z0 z1 x145 z2 z3 z4 x147 x148 x149 x150 x151 x152 x153 x154 x155 x156 x157)) (fun z0 z1 => k (.exit 0) (ef59L2of36x21 t158 x143 x144 x145 z0 z1 x147 x148 x149 x150 x151 x152 x153 x154 x155 x156 x157)) (fun y0 => g (qf59L2of36x20 t158 x143 x144 x145 y0 x147 x148 x149 x150 x151 x152 x153 x154 x155 x156 x157)) x146 := by kernel_rfl
theorem f86L5of36x2_seg {R : Type} (P50 : (R : Type) → T50 R) (P83 : (R : Type) → T83 R) (LO : LOT) (g : St → Option R) (k : Ex → St → Option R) (t178 : Tag) (x164 x165 : Nat) (x168 x169 x170 x171 : Int) (x172 : List Int) (x173 x174 : Nat) (x176 : Int) (x177 : List Int) (x166 x167 : Int) (x175 : List Int) :
    execL env (callsL env (tabOf [(50, w50 P50), (83, w83 P83)]) spG (LOs [] LO) [] 5) 86 ((LOs [] LO) R 5 86) ((loopOf env 86 5).getD .skip) (qf86L5of36x20 t178 x164 x165 x166 x167 x168 x169 x170 x171 x172 x173 x174 x175 x176 x177) (bodyK env 86 5 g k) =
      f86L5of36x2 x164 x165 x168 x169 x170 x171 x172 x173 x174 x176 x177 (fun z0 z1 z2 z3 => k (.exit 0) (ef86L5of36x20 t178 x164 x165 z0 z1 z2 x168 x169 x170 x171 x172 x173 x174 z3 x176 x177)) (fun y0 y1 y2 => g (qf86L5of36x20 t178 x164 x165 y0 y1 x168 x169 x170 x171 x172 x173 x174 y2 x176 x177)) x166 x167 x175 := by kernel_rfl
theorem f69Cof36_seg {R : Type} (P50 : (R : Type) → T50 R) (P83 : (R : Type) → T83 R) (Sf59L2of36 : (R : Type) → Tf59L2of36 R) (Sf86L5of36 : (R : Type) → Tf86L5of36 R) (Sf85L4of36 : (R : Type) → Tf85L4of36 R) (Sf59L2of36x2 : (R : Type) → Tf59L2of36x2 R) (Sf86L5of36x2 : (R : Type) → Tf86L5of36x2 R) (LO : LOT) (k : List V → St → Option R) (t73 : Tag) (x66 x67 x68 x69 x70 : Int) (x71 x72 : List Int) :
    inlCoreL env (callsL env (tabOf [(50, w50 P50), (83, w83 P83)]) spG (LOs [smf59L2of36 Sf59L2of36 LO, smf86L5of36 Sf86L5of36 LO, smf85L4of36 Sf85L4of36 LO, smf59L2of36x2 Sf59L2of36x2 LO, smf86L5of36x2 Sf86L5of36x2 LO] LO) [] 6) 69 ((LOs [smf59L2of36 Sf59L2of36 LO, smf86L5of36 Sf86L5of36 LO, smf85L4of36 Sf85L4of36 LO, smf59L2of36x2 Sf59L2of36x2 LO, smf86L5of36x2 Sf86L5of36x2 LO] LO) R 6 69) (qf69Cof360 t73 x66 x67 x68 x69 x70 x71 x72) k =
      f69Cof36 (Sf59L2of36 R) (Sf86L5of36 R) (Sf85L4of36 R) (Sf59L2of36x2 R) (Sf86L5of36x2 R) x66 x67 x68 x69 x70 x71 x72 (fun z0 => k [.own 1] (ef69Cof360 t73 x67 x68 x69 x70 x71 z0)) (fun z0 z1 z2 => k [.owns 1 z0 z1] (ef69Cof361 t73 z0 z1 x67 x68 x69 x70 x71 z2)) (fun z0 z1 z2 z3 z4 => k [.owns 1 z0 z1] (ef69Cof362 t73 z0 z1 x67 x68 x69 x70 x71 z2 z3 z4)) := by kernel_rfl
theorem f67L4of36_seg {R : Type} (P50 : (R : Type) → T50 R) (P83 : (R : Type) → T83 R) (Sf65Cof36 : (R : Type) → Tf65Cof36 R) (Bf65Cof36 : BT) (LO : LOT) (g : St → Option R) (k : Ex → St → Option R) (t266 t267 : Tag) (x248 x249 x251 x252 x253 x254 x255 x256 x257 x258 : Int) (x259 : List Int) (x260 x261 x262 x263 : Int) (x264 : List Int) (x250 : Int) (x265 : List Int) :
    execL env (callsL env (tabOf [(50, w50 P50), (83, w83 P83)]) spG (LOs [] LO) [smf65Cof36 Sf65Cof36 Bf65Cof36] 4) 67 ((LOs [] LO) R 4 67) ((loopOf env 67 4).getD .skip) (qf67L4of360 t266 t267 x248 x249 x250 x251 x252 x253 x254 x255 x256 x257 x258 x259 x260 x261 x262 x263 x264 x265) (bodyK env 67 4 g k) =
      f67L4of36 (Sf65Cof36 R) x248 x249 x251 x252 x253 x254 x255 x256 x257 x258 x259 x260 x261 x262 x263 x264 (fun z0 z1 z2 => k (.exit 0) (ef67L4of360 t266 t267 x248 x249 z0 z1 x251 x252 x253 x254 x255 x256 x257 x258 x259 x260 x261 x262 x263 x264 z2)) (fun y0 y1 => g (qf67L4of360 t266 t267 x248 x249 y0 x251 x252 x253 x254 x255 x256 x257 x258 x259 x260 x261 x262 x263 x264 y1)) x250 x265 := by kernel_rfl
theorem f67Cof36_seg {R : Type} (P50 : (R : Type) → T50 R) (P83 : (R : Type) → T83 R) (Sf65Cof36 : (R : Type) → Tf65Cof36 R) (Sf68Cof36 : (R : Type) → Tf68Cof36 R) (Sf67L4of36 : (R : Type) → Tf67L4of36 R) (Bf65Cof36 : BT) (Bf68Cof36 : BT) (LO : LOT) (k : List V → St → Option R) (t243 t244 : Tag) (x226 x227 x228 x229 x230 x231 x232 x233 x234 x235 : Int) (x236 : List Int) (x237 x238 x239 x240 : Int) (x241 x242 : List Int) :
    inlCoreL env (callsL env (tabOf [(50, w50 P50), (83, w83 P83)]) spG (LOs [smf67L4of36 Sf67L4of36 LO] LO) [smf65Cof36 Sf65Cof36 Bf65Cof36, smf68Cof36 Sf68Cof36 Bf68Cof36] 4) 67 ((LOs [smf67L4of36 Sf67L4of36 LO] LO) R 4 67) (qf67Cof360 t243 t244 x226 x227 x228 x229 x230 x231 x232 x233 x234 x235 x236 x237 x238 x239 x240 x241 x242) k =
      f67Cof36 (Sf65Cof36 R) (Sf68Cof36 R) (Sf67L4of36 R) x226 x227 x228 x229 x230 x231 x232 x233 x234 x235 x236 x237 x238 x239 x240 x241 x242 (fun z0 => k [] (ef67Cof360 t243 t244 x228 x229 x230 x231 x232 x233 x234 x235 x236 x237 x238 x239 x240 x241 z0)) := by kernel_rfl
theorem f36_seg {R : Type} (P50 : (R : Type) → T50 R) (P83 : (R : Type) → T83 R) (Sf64Cof36 : (R : Type) → Tf64Cof36 R) (Sf65Cof36 : (R : Type) → Tf65Cof36 R) (Sf69Cof36 : (R : Type) → Tf69Cof36 R) (Sf67Cof36 : (R : Type) → Tf67Cof36 R) (Bf64Cof36 : BT) (Bf65Cof36 : BT) (Bf69Cof36 : BT) (Bf67Cof36 : BT) (LO : LOT) (k : List V → Option R) (t5 : Tag) (a1 a2 a3 a4 : Int) (a6 : List Int) (a7 : Int) :
    pureBodyLK env (callsL env (tabOf [(50, w50 P50), (83, w83 P83)]) spG (LOs [] LO) [smf64Cof36 Sf64Cof36 Bf64Cof36, smf65Cof36 Sf65Cof36 Bf65Cof36, smf69Cof36 Sf69Cof36 Bf69Cof36, smf67Cof36 Sf67Cof36 Bf67Cof36] 40) 36 ((LOs [] LO) R 40 36) [.agg [.int .i64 a1, .int .i64 a2, .int .i64 a3, .int .i64 a4, .ints t5 .i64 a6], .int .i64 a7] k =
      f36T (P50 R) (Sf64Cof36 R) (Sf65Cof36 R) (Sf69Cof36 R) (Sf67Cof36 R) a1 a2 a3 a4 a6 a7 (fun y0 => k [.ints .new .i64 y0]) := by kernel_rfl
end Go.Vm.T3
