/-
  Steps of functions, plain law, and walks of functions: what the laws rest on.
-/
import Derived.Test.YtglmmdpeenckbaaDoorSkU0a
set_option linter.unusedVariables false
set_option linter.unusedSimpArgs false
set_option linter.unusedSectionVars false
namespace Go.SK
abbrev zb8 := List UInt8
def znv : List (Int × zb8) := [(1, [79, 112, 85, 110, 100, 101, 102, 32, 84, 82, 32, 32, 32, 32, 55]),
  (3, [79, 112, 83, 111, 117, 114, 99, 101, 32, 32, 108, 110, 32, 32, 32, 52]),
  (5, [79, 112, 78, 97, 109, 101, 32, 32, 105, 115, 32, 32, 32, 53]),
  (6, [79, 112, 77, 101, 109, 98, 101, 114, 78, 97, 109, 101, 32, 32, 105, 110, 115, 32, 32, 32, 53]),
  (7, [79, 112, 83, 116, 114, 105, 110, 103, 32, 82, 32, 115, 32, 32, 32, 52]),
  (14, [79, 112, 77, 101, 109, 111, 114, 121, 77, 111, 100, 101, 108, 32, 32, 97, 109, 32, 32, 32, 49]),
  (15, [79, 112, 69, 110, 116, 114, 121, 80, 111, 105, 110, 116, 32, 32, 101, 105, 115, 32, 105, 32, 32, 50]),
  (16, [79, 112, 69, 120, 101, 99, 117, 116, 105, 111, 110, 77, 111, 100, 101, 32, 32, 105, 120, 32, 32, 32, 51]),
  (17, [79, 112, 67, 97, 112, 97, 98, 105, 108, 105, 116, 121, 32, 32, 107, 32, 32, 32, 48]),
  (19, [79, 112, 84, 121, 112, 101, 86, 111, 105, 100, 32, 82, 32, 32, 32, 32, 55]),
  (20, [79, 112, 84, 121, 112, 101, 66, 111, 111, 108, 32, 82, 32, 32, 32, 32, 55]),
  (21, [79, 112, 84, 121, 112, 101, 73, 110, 116, 32, 82, 32, 110, 110, 32, 32, 32, 55]),
  (23, [79, 112, 84, 121, 112, 101, 86, 101, 99, 116, 111, 114, 32, 82, 32, 105, 110, 32, 32, 32, 55]),
  (28, [79, 112, 84, 121, 112, 101, 65, 114, 114, 97, 121, 32, 82, 32, 105, 105, 32, 32, 32, 55]),
  (30, [79, 112, 84, 121, 112, 101, 83, 116, 114, 117, 99, 116, 32, 82, 32, 32, 105, 32, 32, 55]),
  (32, [79, 112, 84, 121, 112, 101, 80, 111, 105, 110, 116, 101, 114, 32, 82, 32, 99, 105, 32, 32, 32, 55]),
  (33, [79, 112, 84, 121, 112, 101, 70, 117, 110, 99, 116, 105, 111, 110, 32, 82, 32, 105, 32, 105, 32, 32, 55]),
  (41, [79, 112, 67, 111, 110, 115, 116, 97, 110, 116, 84, 114, 117, 101, 32, 84, 82, 32, 32, 32, 32, 55]),
  (42, [79, 112, 67, 111, 110, 115, 116, 97, 110, 116, 70, 97, 108, 115, 101, 32, 84, 82, 32, 32, 32, 32, 55]),
  (43, [79, 112, 67, 111, 110, 115, 116, 97, 110, 116, 32, 84, 82, 32, 110, 32, 32, 32, 55]),
  (44, [79, 112, 67, 111, 110, 115, 116, 97, 110, 116, 67, 111, 109, 112, 111, 115, 105, 116, 101, 32, 84, 82, 32, 32, 105, 32, 32, 55]),
  (46, [79, 112, 67, 111, 110, 115, 116, 97, 110, 116, 78, 117, 108, 108, 32, 84, 82, 32, 32, 32, 32, 55]),
  (54, [79, 112, 70, 117, 110, 99, 116, 105, 111, 110, 32, 84, 82, 32, 102, 105, 32, 32, 32, 56]),
  (55, [79, 112, 70, 117, 110, 99, 116, 105, 111, 110, 80, 97, 114, 97, 109, 101, 116, 101, 114, 32, 84, 82, 32, 32, 32, 32, 56]),
  (56, [79, 112, 70, 117, 110, 99, 116, 105, 111, 110, 69, 110, 100, 32, 32, 32, 32, 32, 56]),
  (57, [79, 112, 70, 117, 110, 99, 116, 105, 111, 110, 67, 97, 108, 108, 32, 84, 82, 32, 105, 32, 105, 32, 32, 56]),
  (59, [79, 112, 86, 97, 114, 105, 97, 98, 108, 101, 32, 84, 82, 32, 99, 32, 105, 32, 49, 32, 55]),
  (61, [79, 112, 76, 111, 97, 100, 32, 84, 82, 32, 105, 32, 32, 32, 56]),
  (62, [79, 112, 83, 116, 111, 114, 101, 32, 32, 105, 105, 32, 32, 32, 56]),
  (65, [79, 112, 65, 99, 99, 101, 115, 115, 67, 104, 97, 105, 110, 32, 84, 82, 32, 105, 32, 105, 32, 32, 56]),
  (71, [79, 112, 68, 101, 99, 111, 114, 97, 116, 101, 32, 32, 105, 100, 32, 110, 32, 32, 54])]
def zjA : List (Int × zb8) := [(77, [79, 112, 86, 101, 99, 116, 111, 114, 69, 120, 116, 114, 97, 99, 116, 68, 121, 110, 97, 109, 105, 99, 32, 84, 82, 32, 105, 105, 32, 32, 32, 56]),
  (78, [79, 112, 86, 101, 99, 116, 111, 114, 73, 110, 115, 101, 114, 116, 68, 121, 110, 97, 109, 105, 99, 32, 84, 82, 32, 105, 105, 105, 32, 32, 32, 56]),
  (79, [79, 112, 86, 101, 99, 116, 111, 114, 83, 104, 117, 102, 102, 108, 101, 32, 84, 82, 32, 105, 105, 32, 110, 32, 32, 56]),
  (80, [79, 112, 67, 111, 109, 112, 111, 115, 105, 116, 101, 67, 111, 110, 115, 116, 114, 117, 99, 116, 32, 84, 82, 32, 32, 105, 32, 32, 56]),
  (81, [79, 112, 67, 111, 109, 112, 111, 115, 105, 116, 101, 69, 120, 116, 114, 97, 99, 116, 32, 84, 82, 32, 105, 32, 110, 32, 32, 56]),
  (82, [79, 112, 67, 111, 109, 112, 111, 115, 105, 116, 101, 73, 110, 115, 101, 114, 116, 32, 84, 82, 32, 105, 105, 32, 110, 32, 32, 56]),
  (83, [79, 112, 67, 111, 112, 121, 79, 98, 106, 101, 99, 116, 32, 84, 82, 32, 105, 32, 32, 32, 56]),
  (124, [79, 112, 66, 105, 116, 99, 97, 115, 116, 32, 84, 82, 32, 105, 32, 32, 32, 56]),
  (126, [79, 112, 83, 78, 101, 103, 97, 116, 101, 32, 84, 82, 32, 105, 32, 32, 32, 56]),
  (128, [79, 112, 73, 65, 100, 100, 32, 84, 82, 32, 105, 105, 32, 32, 32, 56]),
  (130, [79, 112, 73, 83, 117, 98, 32, 84, 82, 32, 105, 105, 32, 32, 32, 56]),
  (132, [79, 112, 73, 77, 117, 108, 32, 84, 82, 32, 105, 105, 32, 32, 32, 56]),
  (134, [79, 112, 85, 68, 105, 118, 32, 84, 82, 32, 105, 105, 32, 32, 32, 56]),
  (135, [79, 112, 83, 68, 105, 118, 32, 84, 82, 32, 105, 105, 32, 32, 32, 56]),
  (137, [79, 112, 85, 77, 111, 100, 32, 84, 82, 32, 105, 105, 32, 32, 32, 56]),
  (138, [79, 112, 83, 82, 101, 109, 32, 84, 82, 32, 105, 105, 32, 32, 32, 56]),
  (139, [79, 112, 83, 77, 111, 100, 32, 84, 82, 32, 105, 105, 32, 32, 32, 56]),
  (149, [79, 112, 73, 65, 100, 100, 67, 97, 114, 114, 121, 32, 84, 82, 32, 105, 105, 32, 32, 32, 56]),
  (150, [79, 112, 73, 83, 117, 98, 66, 111, 114, 114, 111, 119, 32, 84, 82, 32, 105, 105, 32, 32, 32, 56]),
  (151, [79, 112, 85, 77, 117, 108, 69, 120, 116, 101, 110, 100, 101, 100, 32, 84, 82, 32, 105, 105, 32, 32, 32, 56]),
  (152, [79, 112, 83, 77, 117, 108, 69, 120, 116, 101, 110, 100, 101, 100, 32, 84, 82, 32, 105, 105, 32, 32, 32, 56]),
  (154, [79, 112, 65, 110, 121, 32, 84, 82, 32, 105, 32, 32, 32, 56]),
  (155, [79, 112, 65, 108, 108, 32, 84, 82, 32, 105, 32, 32, 32, 56]),
  (164, [79, 112, 76, 111, 103, 105, 99, 97, 108, 69, 113, 117, 97, 108, 32, 84, 82, 32, 105, 105, 32, 32, 32, 56]),
  (165, [79, 112, 76, 111, 103, 105, 99, 97, 108, 78, 111, 116, 69, 113, 117, 97, 108, 32, 84, 82, 32, 105, 105, 32, 32, 32, 56]),
  (166, [79, 112, 76, 111, 103, 105, 99, 97, 108, 79, 114, 32, 84, 82, 32, 105, 105, 32, 32, 32, 56]),
  (167, [79, 112, 76, 111, 103, 105, 99, 97, 108, 65, 110, 100, 32, 84, 82, 32, 105, 105, 32, 32, 32, 56]),
  (168, [79, 112, 76, 111, 103, 105, 99, 97, 108, 78, 111, 116, 32, 84, 82, 32, 105, 32, 32, 32, 56]),
  (169, [79, 112, 83, 101, 108, 101, 99, 116, 32, 84, 82, 32, 105, 105, 105, 32, 32, 32, 56]),
  (170, [79, 112, 73, 69, 113, 117, 97, 108, 32, 84, 82, 32, 105, 105, 32, 32, 32, 56]),
  (171, [79, 112, 73, 78, 111, 116, 69, 113, 117, 97, 108, 32, 84, 82, 32, 105, 105, 32, 32, 32, 56])]
def thirdT : List (Int × zb8) := [(172, [79, 112, 85, 71, 114, 101, 97, 116, 101, 114, 84, 104, 97, 110, 32, 84, 82, 32, 105, 105, 32, 32, 32, 56]),
  (173, [79, 112, 83, 71, 114, 101, 97, 116, 101, 114, 84, 104, 97, 110, 32, 84, 82, 32, 105, 105, 32, 32, 32, 56]),
  (174, [79, 112, 85, 71, 114, 101, 97, 116, 101, 114, 84, 104, 97, 110, 69, 113, 117, 97, 108, 32, 84, 82, 32, 105, 105, 32, 32, 32, 56]),
  (175, [79, 112, 83, 71, 114, 101, 97, 116, 101, 114, 84, 104, 97, 110, 69, 113, 117, 97, 108, 32, 84, 82, 32, 105, 105, 32, 32, 32, 56]),
  (176, [79, 112, 85, 76, 101, 115, 115, 84, 104, 97, 110, 32, 84, 82, 32, 105, 105, 32, 32, 32, 56]),
  (177, [79, 112, 83, 76, 101, 115, 115, 84, 104, 97, 110, 32, 84, 82, 32, 105, 105, 32, 32, 32, 56]),
  (178, [79, 112, 85, 76, 101, 115, 115, 84, 104, 97, 110, 69, 113, 117, 97, 108, 32, 84, 82, 32, 105, 105, 32, 32, 32, 56]),
  (179, [79, 112, 83, 76, 101, 115, 115, 84, 104, 97, 110, 69, 113, 117, 97, 108, 32, 84, 82, 32, 105, 105, 32, 32, 32, 56]),
  (194, [79, 112, 83, 104, 105, 102, 116, 82, 105, 103, 104, 116, 76, 111, 103, 105, 99, 97, 108, 32, 84, 82, 32, 105, 105, 32, 32, 32, 56]),
  (195, [79, 112, 83, 104, 105, 102, 116, 82, 105, 103, 104, 116, 65, 114, 105, 116, 104, 109, 101, 116, 105, 99, 32, 84, 82, 32, 105, 105, 32, 32, 32, 56]),
  (196, [79, 112, 83, 104, 105, 102, 116, 76, 101, 102, 116, 76, 111, 103, 105, 99, 97, 108, 32, 84, 82, 32, 105, 105, 32, 32, 32, 56]),
  (197, [79, 112, 66, 105, 116, 119, 105, 115, 101, 79, 114, 32, 84, 82, 32, 105, 105, 32, 32, 32, 56]),
  (198, [79, 112, 66, 105, 116, 119, 105, 115, 101, 88, 111, 114, 32, 84, 82, 32, 105, 105, 32, 32, 32, 56]),
  (199, [79, 112, 66, 105, 116, 119, 105, 115, 101, 65, 110, 100, 32, 84, 82, 32, 105, 105, 32, 32, 32, 56]),
  (200, [79, 112, 78, 111, 116, 32, 84, 82, 32, 105, 32, 32, 32, 56]),
  (201, [79, 112, 66, 105, 116, 70, 105, 101, 108, 100, 73, 110, 115, 101, 114, 116, 32, 84, 82, 32, 105, 105, 105, 105, 32, 32, 32, 56]),
  (202, [79, 112, 66, 105, 116, 70, 105, 101, 108, 100, 83, 69, 120, 116, 114, 97, 99, 116, 32, 84, 82, 32, 105, 105, 105, 32, 32, 32, 56]),
  (203, [79, 112, 66, 105, 116, 70, 105, 101, 108, 100, 85, 69, 120, 116, 114, 97, 99, 116, 32, 84, 82, 32, 105, 105, 105, 32, 32, 32, 56]),
  (204, [79, 112, 66, 105, 116, 82, 101, 118, 101, 114, 115, 101, 32, 84, 82, 32, 105, 32, 32, 32, 56]),
  (205, [79, 112, 66, 105, 116, 67, 111, 117, 110, 116, 32, 84, 82, 32, 105, 32, 32, 32, 56]),
  (245, [79, 112, 80, 104, 105, 32, 84, 82, 32, 32, 105, 105, 32, 32, 56]),
  (246, [79, 112, 76, 111, 111, 112, 77, 101, 114, 103, 101, 32, 32, 105, 105, 103, 32, 32, 32, 56]),
  (247, [79, 112, 83, 101, 108, 101, 99, 116, 105, 111, 110, 77, 101, 114, 103, 101, 32, 32, 105, 104, 32, 32, 32, 56]),
  (248, [79, 112, 76, 97, 98, 101, 108, 32, 82, 32, 32, 32, 32, 56]),
  (249, [79, 112, 66, 114, 97, 110, 99, 104, 32, 32, 105, 32, 32, 32, 56]),
  (250, [79, 112, 66, 114, 97, 110, 99, 104, 67, 111, 110, 100, 105, 116, 105, 111, 110, 97, 108, 32, 32, 105, 105, 105, 32, 32, 32, 56]),
  (251, [79, 112, 83, 119, 105, 116, 99, 104, 32, 32, 105, 105, 32, 110, 105, 32, 32, 56]),
  (252, [79, 112, 75, 105, 108, 108, 32, 32, 32, 32, 32, 56]),
  (253, [79, 112, 82, 101, 116, 117, 114, 110, 32, 32, 32, 32, 32, 56]),
  (254, [79, 112, 82, 101, 116, 117, 114, 110, 86, 97, 108, 117, 101, 32, 32, 105, 32, 32, 32, 56]),
  (255, [79, 112, 85, 110, 114, 101, 97, 99, 104, 97, 98, 108, 101, 32, 32, 32, 32, 32, 56])]
def zcH : List (Int × zb8) := [(107, [48, 32, 77, 97, 116, 114, 105, 120, 32, 49, 32, 83, 104, 97, 100, 101, 114, 32]),
  (97, [48, 32, 76, 111, 103, 105, 99, 97, 108, 32]),
  (109, [48, 32, 83, 105, 109, 112, 108, 101, 32, 49, 32, 71, 76, 83, 76, 52, 53, 48, 32]),
  (101, [48, 32, 86, 101, 114, 116, 101, 120, 32, 52, 32, 70, 114, 97, 103, 109, 101, 110, 116, 32]),
  (120, [55, 32, 79, 114, 105, 103, 105, 110, 85, 112, 112, 101, 114, 76, 101, 102, 116, 32]),
  (108, [48, 32, 85, 110, 107, 110, 111, 119, 110, 32, 49, 32, 69, 83, 83, 76, 32, 50, 32, 71, 76, 83, 76, 32]),
  (99, [49, 32, 73, 110, 112, 117, 116, 32, 51, 32, 79, 117, 116, 112, 117, 116, 32, 54, 32, 80, 114, 105, 118, 97, 116, 101, 32, 55, 32, 70, 117, 110, 99, 116, 105, 111, 110, 32]),
  (100, [48, 32, 82, 101, 108, 97, 120, 101, 100, 80, 114, 101, 99, 105, 115, 105, 111, 110, 32, 49, 49, 32, 66, 117, 105, 108, 116, 73, 110, 32, 49, 52, 32, 70, 108, 97, 116, 32, 51, 48, 32, 76, 111, 99, 97, 116, 105, 111, 110, 32]),
  (102, [48, 32, 78, 111, 110, 101, 32, 49, 32, 73, 110, 108, 105, 110, 101, 32, 50, 32, 68, 111, 110, 116, 73, 110, 108, 105, 110, 101, 32, 52, 32, 80, 117, 114, 101, 32, 56, 32, 67, 111, 110, 115, 116, 32]),
  (104, [48, 32, 78, 111, 110, 101, 32, 49, 32, 70, 108, 97, 116, 116, 101, 110, 32, 50, 32, 68, 111, 110, 116, 70, 108, 97, 116, 116, 101, 110, 32]),
  (103, [48, 32, 78, 111, 110, 101, 32, 49, 32, 85, 110, 114, 111, 108, 108, 32, 50, 32, 68, 111, 110, 116, 85, 110, 114, 111, 108, 108, 32])]
structure FormL where
  op : Int
  name : zb8
  ty : Bool
  res : Bool
  fixed : zb8
  rest : zb8
  most : Int
  part : Int
  deriving DecidableEq
def refT : List FormL := [⟨1, [79, 112, 85, 110, 100, 101, 102], true, true, [], [], 0, 7⟩,
  ⟨3, [79, 112, 83, 111, 117, 114, 99, 101], false, false, [108, 110], [], 0, 4⟩,
  ⟨5, [79, 112, 78, 97, 109, 101], false, false, [105, 115], [], 0, 5⟩,
  ⟨6, [79, 112, 77, 101, 109, 98, 101, 114, 78, 97, 109, 101], false, false, [105, 110, 115], [], 0, 5⟩,
  ⟨7, [79, 112, 83, 116, 114, 105, 110, 103], false, true, [115], [], 0, 4⟩,
  ⟨14, [79, 112, 77, 101, 109, 111, 114, 121, 77, 111, 100, 101, 108], false, false, [97, 109], [], 0, 1⟩,
  ⟨15, [79, 112, 69, 110, 116, 114, 121, 80, 111, 105, 110, 116], false, false, [101, 105, 115], [105], 0, 2⟩,
  ⟨16, [79, 112, 69, 120, 101, 99, 117, 116, 105, 111, 110, 77, 111, 100, 101], false, false, [105, 120], [], 0, 3⟩,
  ⟨17, [79, 112, 67, 97, 112, 97, 98, 105, 108, 105, 116, 121], false, false, [107], [], 0, 0⟩,
  ⟨19, [79, 112, 84, 121, 112, 101, 86, 111, 105, 100], false, true, [], [], 0, 7⟩,
  ⟨20, [79, 112, 84, 121, 112, 101, 66, 111, 111, 108], false, true, [], [], 0, 7⟩,
  ⟨21, [79, 112, 84, 121, 112, 101, 73, 110, 116], false, true, [110, 110], [], 0, 7⟩,
  ⟨23, [79, 112, 84, 121, 112, 101, 86, 101, 99, 116, 111, 114], false, true, [105, 110], [], 0, 7⟩,
  ⟨28, [79, 112, 84, 121, 112, 101, 65, 114, 114, 97, 121], false, true, [105, 105], [], 0, 7⟩,
  ⟨30, [79, 112, 84, 121, 112, 101, 83, 116, 114, 117, 99, 116], false, true, [], [105], 0, 7⟩,
  ⟨32, [79, 112, 84, 121, 112, 101, 80, 111, 105, 110, 116, 101, 114], false, true, [99, 105], [], 0, 7⟩,
  ⟨33, [79, 112, 84, 121, 112, 101, 70, 117, 110, 99, 116, 105, 111, 110], false, true, [105], [105], 0, 7⟩,
  ⟨41, [79, 112, 67, 111, 110, 115, 116, 97, 110, 116, 84, 114, 117, 101], true, true, [], [], 0, 7⟩,
  ⟨42, [79, 112, 67, 111, 110, 115, 116, 97, 110, 116, 70, 97, 108, 115, 101], true, true, [], [], 0, 7⟩,
  ⟨43, [79, 112, 67, 111, 110, 115, 116, 97, 110, 116], true, true, [110], [], 0, 7⟩,
  ⟨44, [79, 112, 67, 111, 110, 115, 116, 97, 110, 116, 67, 111, 109, 112, 111, 115, 105, 116, 101], true, true, [], [105], 0, 7⟩,
  ⟨46, [79, 112, 67, 111, 110, 115, 116, 97, 110, 116, 78, 117, 108, 108], true, true, [], [], 0, 7⟩,
  ⟨54, [79, 112, 70, 117, 110, 99, 116, 105, 111, 110], true, true, [102, 105], [], 0, 8⟩,
  ⟨55, [79, 112, 70, 117, 110, 99, 116, 105, 111, 110, 80, 97, 114, 97, 109, 101, 116, 101, 114], true, true, [], [], 0, 8⟩,
  ⟨56, [79, 112, 70, 117, 110, 99, 116, 105, 111, 110, 69, 110, 100], false, false, [], [], 0, 8⟩,
  ⟨57, [79, 112, 70, 117, 110, 99, 116, 105, 111, 110, 67, 97, 108, 108], true, true, [105], [105], 0, 8⟩,
  ⟨59, [79, 112, 86, 97, 114, 105, 97, 98, 108, 101], true, true, [99], [105], 1, 7⟩,
  ⟨61, [79, 112, 76, 111, 97, 100], true, true, [105], [], 0, 8⟩,
  ⟨62, [79, 112, 83, 116, 111, 114, 101], false, false, [105, 105], [], 0, 8⟩,
  ⟨65, [79, 112, 65, 99, 99, 101, 115, 115, 67, 104, 97, 105, 110], true, true, [105], [105], 0, 8⟩,
  ⟨71, [79, 112, 68, 101, 99, 111, 114, 97, 116, 101], false, false, [105, 100], [110], 0, 6⟩,
  ⟨77, [79, 112, 86, 101, 99, 116, 111, 114, 69, 120, 116, 114, 97, 99, 116, 68, 121, 110, 97, 109, 105, 99], true, true, [105, 105], [], 0, 8⟩,
  ⟨78, [79, 112, 86, 101, 99, 116, 111, 114, 73, 110, 115, 101, 114, 116, 68, 121, 110, 97, 109, 105, 99], true, true, [105, 105, 105], [], 0, 8⟩,
  ⟨79, [79, 112, 86, 101, 99, 116, 111, 114, 83, 104, 117, 102, 102, 108, 101], true, true, [105, 105], [110], 0, 8⟩,
  ⟨80, [79, 112, 67, 111, 109, 112, 111, 115, 105, 116, 101, 67, 111, 110, 115, 116, 114, 117, 99, 116], true, true, [], [105], 0, 8⟩,
  ⟨81, [79, 112, 67, 111, 109, 112, 111, 115, 105, 116, 101, 69, 120, 116, 114, 97, 99, 116], true, true, [105], [110], 0, 8⟩,
  ⟨82, [79, 112, 67, 111, 109, 112, 111, 115, 105, 116, 101, 73, 110, 115, 101, 114, 116], true, true, [105, 105], [110], 0, 8⟩,
  ⟨83, [79, 112, 67, 111, 112, 121, 79, 98, 106, 101, 99, 116], true, true, [105], [], 0, 8⟩,
  ⟨124, [79, 112, 66, 105, 116, 99, 97, 115, 116], true, true, [105], [], 0, 8⟩,
  ⟨126, [79, 112, 83, 78, 101, 103, 97, 116, 101], true, true, [105], [], 0, 8⟩,
  ⟨128, [79, 112, 73, 65, 100, 100], true, true, [105, 105], [], 0, 8⟩,
  ⟨130, [79, 112, 73, 83, 117, 98], true, true, [105, 105], [], 0, 8⟩,
  ⟨132, [79, 112, 73, 77, 117, 108], true, true, [105, 105], [], 0, 8⟩,
  ⟨134, [79, 112, 85, 68, 105, 118], true, true, [105, 105], [], 0, 8⟩,
  ⟨135, [79, 112, 83, 68, 105, 118], true, true, [105, 105], [], 0, 8⟩,
  ⟨137, [79, 112, 85, 77, 111, 100], true, true, [105, 105], [], 0, 8⟩,
  ⟨138, [79, 112, 83, 82, 101, 109], true, true, [105, 105], [], 0, 8⟩,
  ⟨139, [79, 112, 83, 77, 111, 100], true, true, [105, 105], [], 0, 8⟩,
  ⟨149, [79, 112, 73, 65, 100, 100, 67, 97, 114, 114, 121], true, true, [105, 105], [], 0, 8⟩,
  ⟨150, [79, 112, 73, 83, 117, 98, 66, 111, 114, 114, 111, 119], true, true, [105, 105], [], 0, 8⟩,
  ⟨151, [79, 112, 85, 77, 117, 108, 69, 120, 116, 101, 110, 100, 101, 100], true, true, [105, 105], [], 0, 8⟩,
  ⟨152, [79, 112, 83, 77, 117, 108, 69, 120, 116, 101, 110, 100, 101, 100], true, true, [105, 105], [], 0, 8⟩,
  ⟨154, [79, 112, 65, 110, 121], true, true, [105], [], 0, 8⟩,
  ⟨155, [79, 112, 65, 108, 108], true, true, [105], [], 0, 8⟩,
  ⟨164, [79, 112, 76, 111, 103, 105, 99, 97, 108, 69, 113, 117, 97, 108], true, true, [105, 105], [], 0, 8⟩,
  ⟨165, [79, 112, 76, 111, 103, 105, 99, 97, 108, 78, 111, 116, 69, 113, 117, 97, 108], true, true, [105, 105], [], 0, 8⟩,
  ⟨166, [79, 112, 76, 111, 103, 105, 99, 97, 108, 79, 114], true, true, [105, 105], [], 0, 8⟩,
  ⟨167, [79, 112, 76, 111, 103, 105, 99, 97, 108, 65, 110, 100], true, true, [105, 105], [], 0, 8⟩,
  ⟨168, [79, 112, 76, 111, 103, 105, 99, 97, 108, 78, 111, 116], true, true, [105], [], 0, 8⟩,
  ⟨169, [79, 112, 83, 101, 108, 101, 99, 116], true, true, [105, 105, 105], [], 0, 8⟩,
  ⟨170, [79, 112, 73, 69, 113, 117, 97, 108], true, true, [105, 105], [], 0, 8⟩,
  ⟨171, [79, 112, 73, 78, 111, 116, 69, 113, 117, 97, 108], true, true, [105, 105], [], 0, 8⟩,
  ⟨172, [79, 112, 85, 71, 114, 101, 97, 116, 101, 114, 84, 104, 97, 110], true, true, [105, 105], [], 0, 8⟩,
  ⟨173, [79, 112, 83, 71, 114, 101, 97, 116, 101, 114, 84, 104, 97, 110], true, true, [105, 105], [], 0, 8⟩,
  ⟨174, [79, 112, 85, 71, 114, 101, 97, 116, 101, 114, 84, 104, 97, 110, 69, 113, 117, 97, 108], true, true, [105, 105], [], 0, 8⟩,
  ⟨175, [79, 112, 83, 71, 114, 101, 97, 116, 101, 114, 84, 104, 97, 110, 69, 113, 117, 97, 108], true, true, [105, 105], [], 0, 8⟩,
  ⟨176, [79, 112, 85, 76, 101, 115, 115, 84, 104, 97, 110], true, true, [105, 105], [], 0, 8⟩,
  ⟨177, [79, 112, 83, 76, 101, 115, 115, 84, 104, 97, 110], true, true, [105, 105], [], 0, 8⟩,
  ⟨178, [79, 112, 85, 76, 101, 115, 115, 84, 104, 97, 110, 69, 113, 117, 97, 108], true, true, [105, 105], [], 0, 8⟩,
  ⟨179, [79, 112, 83, 76, 101, 115, 115, 84, 104, 97, 110, 69, 113, 117, 97, 108], true, true, [105, 105], [], 0, 8⟩,
  ⟨194, [79, 112, 83, 104, 105, 102, 116, 82, 105, 103, 104, 116, 76, 111, 103, 105, 99, 97, 108], true, true, [105, 105], [], 0, 8⟩,
  ⟨195, [79, 112, 83, 104, 105, 102, 116, 82, 105, 103, 104, 116, 65, 114, 105, 116, 104, 109, 101, 116, 105, 99], true, true, [105, 105], [], 0, 8⟩,
  ⟨196, [79, 112, 83, 104, 105, 102, 116, 76, 101, 102, 116, 76, 111, 103, 105, 99, 97, 108], true, true, [105, 105], [], 0, 8⟩,
  ⟨197, [79, 112, 66, 105, 116, 119, 105, 115, 101, 79, 114], true, true, [105, 105], [], 0, 8⟩,
  ⟨198, [79, 112, 66, 105, 116, 119, 105, 115, 101, 88, 111, 114], true, true, [105, 105], [], 0, 8⟩,
  ⟨199, [79, 112, 66, 105, 116, 119, 105, 115, 101, 65, 110, 100], true, true, [105, 105], [], 0, 8⟩,
  ⟨200, [79, 112, 78, 111, 116], true, true, [105], [], 0, 8⟩,
  ⟨201, [79, 112, 66, 105, 116, 70, 105, 101, 108, 100, 73, 110, 115, 101, 114, 116], true, true, [105, 105, 105, 105], [], 0, 8⟩,
  ⟨202, [79, 112, 66, 105, 116, 70, 105, 101, 108, 100, 83, 69, 120, 116, 114, 97, 99, 116], true, true, [105, 105, 105], [], 0, 8⟩,
  ⟨203, [79, 112, 66, 105, 116, 70, 105, 101, 108, 100, 85, 69, 120, 116, 114, 97, 99, 116], true, true, [105, 105, 105], [], 0, 8⟩,
  ⟨204, [79, 112, 66, 105, 116, 82, 101, 118, 101, 114, 115, 101], true, true, [105], [], 0, 8⟩,
  ⟨205, [79, 112, 66, 105, 116, 67, 111, 117, 110, 116], true, true, [105], [], 0, 8⟩,
  ⟨245, [79, 112, 80, 104, 105], true, true, [], [105, 105], 0, 8⟩,
  ⟨246, [79, 112, 76, 111, 111, 112, 77, 101, 114, 103, 101], false, false, [105, 105, 103], [], 0, 8⟩,
  ⟨247, [79, 112, 83, 101, 108, 101, 99, 116, 105, 111, 110, 77, 101, 114, 103, 101], false, false, [105, 104], [], 0, 8⟩,
  ⟨248, [79, 112, 76, 97, 98, 101, 108], false, true, [], [], 0, 8⟩,
  ⟨249, [79, 112, 66, 114, 97, 110, 99, 104], false, false, [105], [], 0, 8⟩,
  ⟨250, [79, 112, 66, 114, 97, 110, 99, 104, 67, 111, 110, 100, 105, 116, 105, 111, 110, 97, 108], false, false, [105, 105, 105], [], 0, 8⟩,
  ⟨251, [79, 112, 83, 119, 105, 116, 99, 104], false, false, [105, 105], [110, 105], 0, 8⟩,
  ⟨252, [79, 112, 75, 105, 108, 108], false, false, [], [], 0, 8⟩,
  ⟨253, [79, 112, 82, 101, 116, 117, 114, 110], false, false, [], [], 0, 8⟩,
  ⟨254, [79, 112, 82, 101, 116, 117, 114, 110, 86, 97, 108, 117, 101], false, false, [105], [], 0, 8⟩,
  ⟨255, [79, 112, 85, 110, 114, 101, 97, 99, 104, 97, 98, 108, 101], false, false, [], [], 0, 8⟩]
structure NameL where
  letter : Int
  n : Int
  name : zb8
  deriving DecidableEq
def namesL : List NameL := [⟨107, 0, [77, 97, 116, 114, 105, 120]⟩,
  ⟨107, 1, [83, 104, 97, 100, 101, 114]⟩,
  ⟨97, 0, [76, 111, 103, 105, 99, 97, 108]⟩,
  ⟨109, 0, [83, 105, 109, 112, 108, 101]⟩,
  ⟨109, 1, [71, 76, 83, 76, 52, 53, 48]⟩,
  ⟨101, 0, [86, 101, 114, 116, 101, 120]⟩,
  ⟨101, 4, [70, 114, 97, 103, 109, 101, 110, 116]⟩,
  ⟨120, 7, [79, 114, 105, 103, 105, 110, 85, 112, 112, 101, 114, 76, 101, 102, 116]⟩,
  ⟨108, 0, [85, 110, 107, 110, 111, 119, 110]⟩,
  ⟨108, 1, [69, 83, 83, 76]⟩,
  ⟨108, 2, [71, 76, 83, 76]⟩,
  ⟨99, 1, [73, 110, 112, 117, 116]⟩,
  ⟨99, 3, [79, 117, 116, 112, 117, 116]⟩,
  ⟨99, 6, [80, 114, 105, 118, 97, 116, 101]⟩,
  ⟨99, 7, [70, 117, 110, 99, 116, 105, 111, 110]⟩,
  ⟨100, 0, [82, 101, 108, 97, 120, 101, 100, 80, 114, 101, 99, 105, 115, 105, 111, 110]⟩,
  ⟨100, 11, [66, 117, 105, 108, 116, 73, 110]⟩,
  ⟨100, 14, [70, 108, 97, 116]⟩,
  ⟨100, 30, [76, 111, 99, 97, 116, 105, 111, 110]⟩,
  ⟨102, 0, [78, 111, 110, 101]⟩,
  ⟨102, 1, [73, 110, 108, 105, 110, 101]⟩,
  ⟨102, 2, [68, 111, 110, 116, 73, 110, 108, 105, 110, 101]⟩,
  ⟨102, 4, [80, 117, 114, 101]⟩,
  ⟨102, 8, [67, 111, 110, 115, 116]⟩,
  ⟨104, 0, [78, 111, 110, 101]⟩,
  ⟨104, 1, [70, 108, 97, 116, 116, 101, 110]⟩,
  ⟨104, 2, [68, 111, 110, 116, 70, 108, 97, 116, 116, 101, 110]⟩,
  ⟨103, 0, [78, 111, 110, 101]⟩,
  ⟨103, 1, [85, 110, 114, 111, 108, 108]⟩,
  ⟨103, 2, [68, 111, 110, 116, 85, 110, 114, 111, 108, 108]⟩]
def zgt (T : List (Int × zb8)) (n : Int) : zb8 := match T with
  | [] => []
  | p :: T => if n = p.1 then p.2 else zgt T n
theorem zcK {n : Int} : ∀ {T : List (Int × zb8)}, (∀ p ∈ T, ¬ n = p.1) → zgt T n = []
  | [], _ => rfl
  | p :: T, h => by rw [zgt, if_neg (h p (.head _)), zcK fun q hq => h q (.tail _ hq)]
def zhm (op : Int) : zb8 := if op ≤ 71 then zgt znv op else if op ≤ 171 then zgt zjA op else zgt thirdT op
def zq6 (op : Int) : List FormL → Option FormL
  | [] => none
  | f :: T => if op = f.op then some f else zq6 op T
def zcR (op : Int) : Option FormL := zq6 op refT
theorem zih {op : Int} : ∀ {T : List FormL}, (∀ f ∈ T, ¬ op = f.op) → zq6 op T = none
  | [], _ => rfl
  | f :: T, h => by rw [zq6, if_neg (h f (.head _)), zih fun q hq => h q (.tail _ hq)]
theorem zcp {op : Int} {f : FormL} : ∀ {T : List FormL}, zq6 op T = some f → f ∈ T ∧ f.op = op
  | [], h => by cases h
  | g :: T, h => by
    rw [zq6] at h
    split at h
    · cases h; exact ⟨.head _, by assumption |> Eq.symm⟩
    · have := zcp h; exact ⟨.tail _ this.1, this.2⟩
def zg8 : FormL := ⟨0, [], false, false, [], [], 0, 0⟩
abbrev formC (f : FormL) : List Value := [.int .u16 f.op, str f.name, .bool f.ty, .bool f.res, str f.fixed, str f.rest, .int .i64 f.most, .int .u8 f.part]
abbrev formV (o : Option FormL) : Value := .tuple #[.agg (formC (o.getD zg8)).toArray, .bool o.isSome]
def zfj (st : Nat × List zb8) (c : UInt8) : Nat × List zb8 := if c = 32 then (st.1 + 1, st.2) else (st.1, st.2.modify st.1 (· ++ [c]))
def zaX (s : zb8) : Nat × List zb8 := s.foldl zfj (0, [[], [], [], [], [], []])
def zbH (s : zb8) : List zb8 := (zaX s).2
theorem zd9 {s : zb8} {i : Nat} (h : i < s.length) : s.take (i + 1) = s.take i ++ [s[i]] := by rw [List.take_succ_eq_append_getElem h]
theorem zfh {s : zb8} {i : Nat} (h : i < s.length) : zaX (s.take (i + 1)) = zfj (zaX (s.take i)) s[i] := by
  unfold zaX; rw [zd9 h, List.foldl_append]; rfl
theorem zdR : ∀ (s : zb8) (st : Nat × List zb8), st.1 ≤ (s.foldl zfj st).1 ∧ (s.foldl zfj st).2.length = st.2.length
  | [], st => ⟨Nat.le_refl _, rfl⟩
  | c :: s, st => by
    have h := zdR s (zfj st c)
    rw [List.foldl_cons]
    have e : st.1 ≤ (zfj st c).1 ∧ (zfj st c).2.length = st.2.length := by
      unfold zfj; split
      · exact ⟨by simp, rfl⟩
      · exact ⟨Nat.le_refl _, by simp⟩
    exact ⟨Nat.le_trans e.1 h.1, h.2.trans e.2⟩
theorem zcZ (s : zb8) : (zaX s).2.length = 6 := (zdR s _).2
theorem zgU {s : zb8} {i : Nat} : (zaX (s.take i)).1 ≤ (zaX s).1 := by
  have : zaX s = (s.drop i).foldl zfj (zaX (s.take i)) := by
    unfold zaX; rw [← List.foldl_append, List.take_append_drop]
  rw [this]; exact (zdR _ _).1
theorem zes (s : zb8) : ∀ i, i ≤ s.length → ∀ f ∈ (zaX (s.take i)).2, f.length ≤ i
  | 0, _ => by simp [zaX]
  | i + 1, h => by
    rw [zfh (by omega)]
    have ih := zes s i Om
    intro f hf
    unfold zfj at hf
    split at hf
    · have := ih f hf; omega
    · obtain ⟨j, hj, rfl⟩ := List.getElem_of_mem hf
      simp only [List.length_modify] at hj
      rw [List.getElem_modify]
      have := ih _ (List.getElem_mem hj)
      split <;> simp <;> omega
def zmS (s : zb8) : Bool := s.all (fun c => c.toNat < 128) && decide ((zaX s).1 ≤ 5) && decide (s.length ≤ 100) && (zbH s).all (fun f => f.all fun c => c.toNat < 128) && (s == [] || !((zbH s).getD 5 []).isEmpty)
def zgm (c : UInt8) (n : Int) : Int := IntKind.u8.wrap ((c.toNat : Int) - n)
def ofS (op : Int) : Option FormL :=
  if zhm op = [] then none
  else some ⟨op, (zbH (zhm op)).getD 0 [], ((zbH (zhm op)).getD 1 []).contains 84, ((zbH (zhm op)).getD 1 []).contains 82, (zbH (zhm op)).getD 2 [], (zbH (zhm op)).getD 3 [],
    (if (zbH (zhm op)).getD 4 [] = [] then 0 else zgm (((zbH (zhm op)).getD 4 []).getD 0 0) 48), zgm (((zbH (zhm op)).getD 5 []).getD 0 0) 48⟩
theorem zlt : (List.range 256).all (fun n => zmS (zhm n) && decide (ofS n = zcR n)) = true := by decide +kernel
theorem zh2 : thirdT.all (fun p => decide (p.1 ≤ 255)) = true := by decide +kernel
theorem zlu : refT.all (fun f => decide (0 ≤ f.op ∧ f.op ≤ 255)) = true := by decide +kernel
theorem zkB {op : Int} (h : 255 < op) : zhm op = [] := by
  unfold zhm
  rw [if_neg (by omega), if_neg (by omega)]
  refine zcK fun p hp e => ?_
  have := List.all_eq_true.1 zh2 p hp
  simp only [decide_eq_true_eq] at this
  omega
theorem zoN {op : Int} (h : 255 < op) : zcR op = none := zih fun f hf e => by
  have := List.all_eq_true.1 zlu f hf
  simp only [decide_eq_true_eq] at this
  omega
theorem zed {op : Int} (h : 0 ≤ op) : zmS (zhm op) = true ∧ ofS op = zcR op := by
  by_cases hb : 255 < op
  · have e : ofS op = none := by unfold ofS; rw [if_pos (zkB hb)]
    rw [zkB hb, zoN hb, e]; exact ⟨by decide +kernel, rfl⟩
  · have := List.all_eq_true.1 zlt op.toNat (List.mem_range.2 Om)
    simp only [Bool.and_eq_true, decide_eq_true_eq] at this
    rw [show ((op.toNat : Nat) : Int) = op by omega] at this
    exact this
theorem zgI {s : zb8} (h : zmS s = true) : (∀ c ∈ s, c.toNat < 128) ∧ (zaX s).1 ≤ 5 ∧ s.length ≤ 100 ∧ (∀ f ∈ zbH s, ∀ c ∈ f, c.toNat < 128) ∧ (s = [] ∨ (zbH s).getD 5 [] ≠ []) := by
  simp only [zmS, Bool.and_eq_true, List.all_eq_true, decide_eq_true_eq, Bool.or_eq_true, beq_iff_eq, Bool.not_eq_true', List.isEmpty_eq_false_iff] at h
  exact ⟨h.1.1.1.1, h.1.1.1.2, h.1.1.2, h.1.2, h.2⟩
theorem zmT {op : Int} {f : FormL} (h : zcR op = some f) : f.op = op := (zcp h).2
def ziD (f : FormL) : Bool := decide (0 ≤ f.op ∧ f.op ≤ 255) && decide (0 ≤ f.most ∧ f.most ≤ 9) && decide (f.fixed.length ≤ 40) && decide (f.rest.length ≤ 40) && decide (f.name.length ≤ 100) && decide (0 ≤ f.part ∧ f.part ≤ 9) && f.fixed.all (· != 0) && f.rest.all (· != 0)
theorem zqo : refT.all ziD = true := by decide +kernel
theorem zqp {op : Int} {f : FormL} (h : zcR op = some f) : ziD f = true := List.all_eq_true.1 zqo f (zcp h).1
theorem zlV {l : List zb8} {n i : Nat} (h : ∀ f ∈ l, f.length ≤ n) : (l.getD i []).length ≤ n := by
  by_cases hi : i < l.length
  · simp only [List.getD, List.getElem?_eq_getElem hi, Option.getD_some]; exact h _ (List.getElem_mem hi)
  · simp [List.getD, List.getElem?_eq_none (Nat.le_of_not_lt hi)]
theorem zcs {l : zb8} {i : Nat} (x : UInt8) {m : Int} (hm : ((x.toNat : Nat) : Int) = m) (h : i < l.length) : (l.take (i + 1)).contains x = ((l.take i).contains x || decide ((l[i].toNat : Int) = m)) := by
  subst hm
  rw [zd9 h, List.contains_eq_any_beq, List.any_append, ← List.contains_eq_any_beq]
  congr 1
  simp only [List.any_cons, List.any_nil, Bool.or_false]
  by_cases e : x = l[i]
  · rw [e]; simp
  · rw [show (x == l[i]) = false from beq_eq_false_iff_ne.2 e]
    symm
    rw [decide_eq_false_iff_not]
    intro he
    exact e (UInt8.toNat_inj.1 Om)
theorem zmE (n : Int) : 0 ≤ IntKind.u8.wrap n ∧ IntKind.u8.wrap n ≤ 255 := by simp [IntKind.wrap, IntKind.bits, IntKind.signed]; omega
def znb (n : Int) (c : UInt8) : Int := IntKind.u32.wrap (IntKind.u32.wrap (10 * n) + IntKind.u32.wrap ((c.toNat : Int) - 48))
def zqu (s : zb8) : Int := s.foldl znb 0
theorem znc {s : zb8} {i : Nat} (h : i < s.length) : zqu (s.take (i + 1)) = znb (zqu (s.take i)) s[i] := by
  unfold zqu; rw [zd9 h, List.foldl_append]; rfl
theorem zpb {α : Type} {p : α → Bool} {l : List α} {i : Nat} {d : α} {R : Option α} (h : (l.drop i).find? p = R) (hi : i < l.length) (hp : p (l.getD i d) = true) : R = some (l.getD i d) := by
  rw [List.drop_eq_getElem_cons hi] at h
  simp only [List.getD, List.getElem?_eq_getElem hi, Option.getD_some] at hp ⊢
  rw [List.find?_cons_of_pos hp] at h
  exact h.symm
theorem znw {α : Type} {p : α → Bool} {l : List α} {i : Nat} {d : α} {R : Option α} (h : (l.drop i).find? p = R) (hi : i < l.length) (hp : p (l.getD i d) = false) : (l.drop (i + 1)).find? p = R := by
  rw [List.drop_eq_getElem_cons hi] at h
  simp only [List.getD, List.getElem?_eq_getElem hi, Option.getD_some] at hp
  rwa [List.find?_cons_of_neg (by simp [hp])] at h
theorem zpc {α : Type} {p : α → Bool} {l : List α} {i : Nat} {R : Option α} (h : (l.drop i).find? p = R) (hi : l.length ≤ i) : R = none := by
  rw [List.drop_eq_nil_of_le hi] at h; exact h.symm
def zc3 : NameL := ⟨0, 0, []⟩
abbrev enN (c n : Int) (x : NameL) : Bool := decide (x.letter = c ∧ x.n = n)
abbrev enS (c : Int) (s : zb8) (x : NameL) : Bool := decide (x.letter = c ∧ x.name = s)
abbrev nameV (o : Option NameL) : Value := .tuple #[str (o.getD zc3).name, .bool o.isSome]
def zbi (c : Int) : List NameL := namesL.filter fun x => decide (x.letter = c)
structure EnSt where
  n : Int
  word : zb8
  num : Bool
  out : List (Int × zb8)
def zc2 (st : EnSt) (c : UInt8) : EnSt :=
  if c ≠ 32 then ⟨st.n, st.word ++ [c], st.num, st.out⟩
  else if st.num then ⟨st.n, [], false, st.out ++ [(st.n, st.word)]⟩ else ⟨zqu st.word, [], true, st.out⟩
def enF (s : zb8) : EnSt := s.foldl zc2 ⟨0, [], false, []⟩
theorem zet {s : zb8} {i : Nat} (h : i < s.length) : enF (s.take (i + 1)) = zc2 (enF (s.take i)) s[i] := by
  unfold enF; rw [zd9 h, List.foldl_append]; rfl
theorem zjX (s : zb8) (hs : ∀ c ∈ s, c.toNat < 128) : ∀ i, i ≤ s.length → (enF (s.take i)).word.length ≤ i ∧ ∀ c ∈ (enF (s.take i)).word, c.toNat < 128
  | 0, _ => by simp [enF]
  | i + 1, h => by
    have ih := zjX s hs i Om
    rw [zet (by omega)]
    unfold zc2
    split
    · refine ⟨by simp; omega, fun c hc => ?_⟩
      rcases List.mem_append.1 hc with hc | hc
      · exact ih.2 c hc
      · rw [List.mem_singleton.1 hc]; exact hs _ (List.getElem_mem _)
    · split <;> exact ⟨by simp, by simp⟩
theorem zfg : ∀ (s : zb8) (st : EnSt), ∃ t, (s.foldl zc2 st).out = st.out ++ t
  | [], st => ⟨[], by simp⟩
  | c :: s, st => by
    obtain ⟨t, ht⟩ := zfg s (zc2 st c)
    rw [List.foldl_cons, ht]
    unfold zc2
    split
    · exact ⟨t, rfl⟩
    · split
      · exact ⟨(st.n, st.word) :: t, by simp⟩
      · exact ⟨t, rfl⟩
theorem zqN (s : zb8) (i : Nat) : ∃ t, (enF s).out = (enF (s.take i)).out ++ t := by
  have : enF s = (s.drop i).foldl zc2 (enF (s.take i)) := by
    unfold enF; rw [← List.foldl_append, List.take_append_drop]
  rw [this]; exact zfg _ _
theorem zkS {s : zb8} {l : List (Int × zb8)} (hl : (enF s).out = l) {i : Nat} (h : i < s.length) (hc : s[i] = 32) (hn : (enF (s.take i)).num = true) :
    (enF (s.take i)).out.length < l.length ∧ l.getD (enF (s.take i)).out.length (0, []) = ((enF (s.take i)).n, (enF (s.take i)).word) := by
  obtain ⟨t, ht⟩ := zqN s (i + 1)
  rw [zet h] at ht
  have e : (zc2 (enF (s.take i)) s[i]).out = (enF (s.take i)).out ++ [((enF (s.take i)).n, (enF (s.take i)).word)] := by
    unfold zc2; rw [if_neg (by simp [hc]), if_pos hn]
  rw [e, List.append_assoc] at ht
  subst hl
  rw [ht]
  refine ⟨by simp, ?_⟩
  simp [List.getD]
def znh (s : zb8) : Bool := s.all (fun c => c.toNat < 128) && decide (s.length ≤ 100)
theorem zjJ : (List.range 256).all (fun n => znh (zgt zcH n) && decide ((enF (zgt zcH n)).out = (zbi n).map fun x => (x.n, x.name))) = true := by decide +kernel
theorem zng {c : Int} (h0 : 0 ≤ c) (h1 : c ≤ 255) : (∀ x ∈ zgt zcH c, x.toNat < 128) ∧ (zgt zcH c).length ≤ 100 ∧ (enF (zgt zcH c)).out = (zbi c).map fun x => (x.n, x.name) := by
  have := List.all_eq_true.1 zjJ c.toNat (List.mem_range.2 Om)
  rw [show ((c.toNat : Nat) : Int) = c by omega] at this
  simp only [znh, Bool.and_eq_true, List.all_eq_true, decide_eq_true_eq] at this
  exact ⟨this.1.1, this.1.2, this.2⟩
theorem zgW {c n : Int} : (zbi c).find? (fun x => decide (x.n = n)) = namesL.find? (enN c n) := by
  unfold zbi; rw [List.find?_filter]; congr 1; funext x
  simp [enN]
theorem zo1 {α β : Type} {l : List α} {f : α → β} {k : Nat} {d : α} {d' : β} (hk : k < l.length) : (l.map f).getD k d' = f (l.getD k d) := by
  simp [List.getD, hk]
abbrev nmF (q : zb8) (f : FormL) : Bool := decide (f.name = q)
def zbd (c : Int) : Int := if c = 105 then 1 else if c = 110 then 2 else if c = 115 then 3 else if zgt zcH c ≠ [] then 4 else 0
theorem zfU : (List.range 256).all (fun n => decide ((zgt zcH n ≠ []) ↔ (namesL.find? (fun x => decide (x.letter = (n : Int)))).isSome = true)) = true := by decide +kernel
theorem znf {c : Int} (h0 : 0 ≤ c) (h1 : c ≤ 255) : (zgt zcH c ≠ []) ↔ (namesL.find? (fun x => decide (x.letter = c))).isSome = true := by
  have := List.all_eq_true.1 zfU c.toNat (List.mem_range.2 Om)
  rw [show ((c.toNat : Nat) : Int) = c by omega] at this
  simpa only [decide_eq_true_eq] using this
theorem zqq (op : Int) : ziD ((zcR op).getD zg8) = true := by
  cases h : zcR op with
  | none => decide +kernel
  | some f => exact zqp h
structure FOk (f : FormL) : Prop where
  op : 0 ≤ f.op ∧ f.op ≤ 255
  most : 0 ≤ f.most ∧ f.most ≤ 9
  fixed : f.fixed.length ≤ 40
  rest : f.rest.length ≤ 40
  name : f.name.length ≤ 100
  part : 0 ≤ f.part ∧ f.part ≤ 9
  fix0 : ∀ c ∈ f.fixed, c ≠ 0
  rest0 : ∀ c ∈ f.rest, c ≠ 0
theorem FOk.of {f : FormL} (h : ziD f = true) : FOk f := by
  simp only [ziD, Bool.and_eq_true, decide_eq_true_eq, List.all_eq_true, bne_iff_ne] at h
  obtain ⟨⟨⟨⟨⟨⟨⟨h1, h2⟩, h3⟩, h4⟩, h5⟩, h6⟩, h7⟩, h8⟩ := h
  exact ⟨h1, h2, h3, h4, h5, h6, h7, h8⟩
abbrev zaO (op : Int) : FormL := (zcR op).getD zg8
theorem zef (op : Int) : FOk (zaO op) := FOk.of (zqq op)
def zmp (f : FormL) (i : Int) : Int := if i < 0 ∨ (f.fixed.length : Int) ≤ i then 0 else ((f.fixed.getD i.toNat 0).toNat : Int)
def zfk (f : FormL) (i : Int) : Int :=
  if i - f.fixed.length < 0 ∨ f.rest = [] ∨ (0 < f.most ∧ f.most * f.rest.length ≤ i - f.fixed.length) then 0
  else ((f.rest.getD ((i - f.fixed.length) % f.rest.length).toNat 0).toNat : Int)
def zav (f : FormL) (i : Int) : Int := if i < 0 then 0 else if i < f.fixed.length then ((f.fixed.getD i.toNat 0).toNat : Int) else zfk f i
theorem zp2 {f : FormL} (hf : FOk f) {i : Int} (h0 : 0 ≤ i) (h1 : i < f.fixed.length) : zmp f i = ((f.fixed.getD i.toNat 0).toNat : Int) ∧ zmp f i ≠ 0 := by
  have e : zmp f i = ((f.fixed.getD i.toNat 0).toNat : Int) := by unfold zmp; rw [if_neg (by omega)]
  refine ⟨e, ?_⟩
  rw [e]
  have hi : i.toNat < f.fixed.length := by omega
  have hc := hf.fix0 _ (List.getElem_mem hi)
  simp only [List.getD, List.getElem?_eq_getElem hi, Option.getD_some]
  intro h
  exact hc (UInt8.toNat_inj.1 (by simpa using (by omega : f.fixed[i.toNat].toNat = 0)))
theorem zlO {f : FormL} (hf : FOk f) {i : Int} (h0 : 0 ≤ i) (h : ¬ zmp f i = 0) : zav f i = zmp f i := by
  have h1 : i < f.fixed.length := by
    refine Classical.byContradiction fun hn => h ?_
    unfold zmp; rw [if_pos (by omega)]
  rw [(zp2 hf h0 h1).1]; unfold zav; rw [if_neg (by omega), if_pos h1]
theorem zfZ {f : FormL} (hf : FOk f) {i : Int} (h0 : 0 ≤ i) (h : zmp f i = 0) : zav f i = zfk f i := by
  have h1 : ¬ i < f.fixed.length := fun hn => (zp2 hf h0 hn).2 h
  unfold zav; rw [if_neg (by omega), if_neg h1]
theorem znK (c : UInt8) : 0 ≤ (c.toNat : Int) ∧ (c.toNat : Int) ≤ 255 := by have := c.toNat_lt; omega
theorem zcb (f : FormL) (i : Int) : 0 ≤ zav f i ∧ zav f i ≤ 255 := by
  unfold zav zfk
  have h1 := znK (f.fixed.getD i.toNat 0)
  have h2 := znK (f.rest.getD ((i - f.fixed.length) % f.rest.length).toNat 0)
  repeat (split; · omega)
  omega
theorem zkM (c : Int) : 0 ≤ zbd c ∧ zbd c ≤ 4 := by
  unfold zbd
  repeat (split; · omega)
  omega
theorem zf6 : refT.all (fun f => decide (refT.find? (nmF f.name) = some f)) = true := by decide +kernel
theorem ziL {op : Int} {f : FormL} (h : zcR op = some f) : refT.find? (nmF f.name) = some f := by
  have := List.all_eq_true.1 zf6 f (zcp h).1
  simpa only [decide_eq_true_eq] using this
theorem zf7 : namesL.all (fun x => decide (namesL.find? (enS x.letter x.name) = some x) && decide (zgt zcH x.letter ≠ [] ∧ zbd x.letter = 4)) = true := by decide +kernel
theorem ziM {c n : Int} {x : NameL} (h : namesL.find? (enN c n) = some x) : x.letter = c ∧ x.n = n ∧ namesL.find? (enS c x.name) = some x ∧ zbd c = 4 := by
  have h1 : x.letter = c ∧ x.n = n := by simpa using List.find?_some h
  have := List.all_eq_true.1 zf7 x (List.mem_of_find?_eq_some h)
  simp only [Bool.and_eq_true, decide_eq_true_eq] at this
  obtain ⟨h2, h3, h4⟩ := this
  rw [h1.1] at h2 h4
  exact ⟨h1.1, h1.2, h2, h4⟩
theorem zmV {op : Int} (h : (zcR op).isSome = false) : zaO op = zg8 := by
  rw [zaO, show zcR op = none by simpa using h]; rfl
theorem zmU {op : Int} (h : (zcR op).isSome = true) : refT.find? (nmF (zaO op).name) = some (zaO op) ∧ (zaO op).op = op := by
  obtain ⟨f, hf⟩ := Option.isSome_iff_exists.1 h
  rw [zaO, hf]
  exact ⟨ziL hf, zmT hf⟩
theorem zjP (i : Int) : zav zg8 i = 0 := by
  unfold zav
  by_cases h : i < 0
  · rw [if_pos h]
  · rw [if_neg h, if_neg (by show ¬ i < 0; omega)]
    unfold zfk
    rw [if_pos (.inr (.inl rfl))]
end Go.SK
namespace Go.SK
abbrev u8C (x : Int) : List Value := [.int .u8 x]
theorem zqd (x : Int) : (u8C x).length = 1 := rfl
abbrev badB (f : FormL) (i : Nat) (k : Int) : Prop := k = 0 ∨ zbd (zav f i) ≠ k
def zg0 (f : FormL) : Nat → List Int → Option Nat
  | _, [] => none
  | i, k :: ks => if badB f i k then some i else zg0 f (i + 1) ks
theorem znL {f : FormL} {ks : List Int} {i : Nat} {R : Option Nat} (h : zg0 f i (ks.drop i) = R) (hi : i < ks.length) (hb : badB f i (ks.getD i 0)) : R = some i := by
  rw [List.drop_eq_getElem_cons hi, zg0] at h
  simp only [List.getD, List.getElem?_eq_getElem hi, Option.getD_some] at hb
  rw [if_pos hb] at h; exact h.symm
theorem zpq {f : FormL} {ks : List Int} {i : Nat} {R : Option Nat} (h : zg0 f i (ks.drop i) = R) (hi : i < ks.length) (hb : ¬ badB f i (ks.getD i 0)) : zg0 f (i + 1) (ks.drop (i + 1)) = R := by
  rw [List.drop_eq_getElem_cons hi, zg0] at h
  simp only [List.getD, List.getElem?_eq_getElem hi, Option.getD_some] at hb
  rwa [if_neg hb] at h
theorem zhK {f : FormL} {ks : List Int} {i : Nat} {R : Option Nat} (h : zg0 f i (ks.drop i) = R) (hi : ks.length ≤ i) : R = none := by
  rw [List.drop_eq_nil_of_le hi, zg0] at h; exact h.symm
abbrev zjH (f : FormL) (n : Nat) : Prop := (n : Int) - f.fixed.length < 0 ∨ (f.rest ≠ [] ∧ ((n : Int) - f.fixed.length) % f.rest.length ≠ 0)
def zhC (f : FormL) (ks : List Int) : Int × Bool := match zg0 f 0 ks with
  | some i => ((i : Int), false)
  | none => if zjH f ks.length then ((ks.length : Int), false) else (0, true)
def zdj (op : Int) (ks : List Int) : Int × Bool := if (zcR op).isSome then zhC (zaO op) ks else (0, false)
abbrev ziI (p : Int × Bool) : Value := .tuple #[.int .i64 p.1, .bool p.2]
theorem zqH {op : Int} {ks : List Int} {ob : Bool} (h : (zcR op).isSome = ob) (ho : ob = false) : zdj op ks = (0, false) := by
  unfold zdj; rw [h, ho]; rfl
theorem zct {op : Int} {ks : List Int} {fm : FormL} {ob : Bool} (h : (zcR op).isSome = ob) (hf : zaO op = fm) (ho : ob = true) : zdj op ks = zhC fm ks := by
  unfold zdj; rw [h, ho, hf]; rfl
theorem ziJ {f : FormL} {ks : List Int} {i : Nat} (h : zg0 f 0 ks = some i) : zhC f ks = ((i : Int), false) := by unfold zhC; rw [h]
theorem zf3 {f : FormL} {ks : List Int} (h : zg0 f 0 ks = none) (ho : zjH f ks.length) : zhC f ks = ((ks.length : Int), false) := by unfold zhC; rw [h]; simp only; rw [if_pos ho]
theorem zfB {f : FormL} {ks : List Int} (h : zg0 f 0 ks = none) (ho : ¬ zjH f ks.length) : zhC f ks = (0, true) := by unfold zhC; rw [h]; simp only; rw [if_neg ho]
theorem zhs : refT.all (fun f => (f.fixed ++ f.rest).all fun c => decide (zbd c.toNat ≠ 0)) = true := by decide +kernel
theorem zee (op i : Int) (h : zav (zaO op) i ≠ 0) : zbd (zav (zaO op) i) ≠ 0 := by
  cases hr : zcR op with
  | none =>
    have : zaO op = zg8 := by rw [zaO, hr]; rfl
    rw [this, zjP] at h; exact absurd rfl h
  | some f =>
    have e : zaO op = f := by rw [zaO, hr]; rfl
    rw [e] at h ⊢
    have hall := List.all_eq_true.1 zhs f (zcp hr).1
    rw [List.all_eq_true] at hall
    have key : ∀ c ∈ f.fixed ++ f.rest, zbd (c.toNat : Int) ≠ 0 := fun c hc => by simpa only [decide_eq_true_eq] using hall c hc
    unfold zav at h ⊢
    split at h
    · exact absurd rfl h
    · rename_i h0
      rw [if_neg h0]
      split at h
      · rename_i h1
        rw [if_pos h1]
        have hi : i.toNat < f.fixed.length := by omega
        simp only [List.getD, List.getElem?_eq_getElem hi, Option.getD_some]
        exact key _ (List.mem_append_left _ (List.getElem_mem hi))
      · rename_i h1
        rw [if_neg h1]
        unfold zfk at h ⊢
        split at h
        · exact absurd rfl h
        · rename_i h2
          rw [if_neg h2]
          have hr2 : 0 < f.rest.length := List.length_pos_iff.2 (fun e => h2 (.inr (.inl e)))
          have hm := Int.emod_lt_of_pos (i - (f.fixed.length : Int)) (show (0 : Int) < f.rest.length by omega)
          have hn := Int.emod_nonneg (i - (f.fixed.length : Int)) (show (f.rest.length : Int) ≠ 0 by omega)
          have hi : ((i - (f.fixed.length : Int)) % (f.rest.length : Int)).toNat < f.rest.length := by omega
          simp only [List.getD, List.getElem?_eq_getElem hi, Option.getD_some]
          exact key _ (List.mem_append_right _ (List.getElem_mem hi))
theorem ziW {f : FormL} {i : Nat} : ∀ {ts : List Int}, (∀ j (hj : j < ts.length), ¬ badB f (i + j) ts[j]) → zg0 f i ts = none
  | [], _ => rfl
  | k :: ts, h => by
    rw [zg0, if_neg (show ¬ badB f i k from h 0 (by simp))]
    exact ziW (i := i + 1) fun j hj => by
      have := h (j + 1) (by simpa using hj)
      rw [show i + 1 + j = i + (j + 1) by omega]
      exact this
end Go.SK
namespace Go.SK
open Go.RowKit Go.ChangeShapes Go.WideShapes Go.ChangeAt
def idE (n bound : Int) : Int := if n = 0 ∨ n ≥ bound then 43 else 0
def zdS (c n : Int) : Int := if (namesL.find? (enN c n)).isSome = true then 0 else 31
def ze3 (c : Int) (ws : List Int) (bound : Int) : ArgP × Nat × Int :=
  if c = 0 ∨ ws.length = 0 then (zeroA, 0, 42)
  else if zbd c = 3 then (⟨3, 0, (zhf ws).1⟩, (zhf ws).2.1.toNat, (zhf ws).2.2)
  else (⟨zbd c, ws.getD 0 0, []⟩, 1, if zbd c = 1 then idE (ws.getD 0 0) bound else if zbd c = 4 then zdS c (ws.getD 0 0) else 0)
theorem znQ {c : Int} {ws : List Int} {b : Int} (h : c = 0 ∨ ws.length = 0) : ze3 c ws b = (zeroA, 0, 42) := if_pos h
theorem znP {c : Int} {ws : List Int} {b : Int} (h : ¬ c = 0) (h2 : ¬ ws.length = 0) (hk : zbd c = 3) : ze3 c ws b = (⟨3, 0, (zhf ws).1⟩, (zhf ws).2.1.toNat, (zhf ws).2.2) := by
  unfold ze3; rw [if_neg (fun h3 => h3.elim h h2), if_pos hk]
theorem zpv {c : Int} {ws : List Int} {b : Int} (h : ¬ c = 0) (h2 : ¬ ws.length = 0) (hk : ¬ zbd c = 3) : ze3 c ws b = (⟨zbd c, ws.getD 0 0, []⟩, 1, if zbd c = 1 then idE (ws.getD 0 0) b else if zbd c = 4 then zdS c (ws.getD 0 0) else 0) := by
  unfold ze3; rw [if_neg (fun h3 => h3.elim h h2), if_neg hk]
theorem zj2 {c : Int} {ws : List Int} {b : Int} (h : (ze3 c ws b).2.2 = 0) : 1 ≤ (ze3 c ws b).2.1 ∧ (ze3 c ws b).2.1 ≤ ws.length ∧ c ≠ 0 ∧ (ze3 c ws b).1.kind = zbd c := by
  by_cases h1 : c = 0 ∨ ws.length = 0
  · rw [znQ h1] at h; cases h
  · have h2 : ¬ c = 0 := fun e => h1 (.inl e)
    have h3 : ¬ ws.length = 0 := fun e => h1 (.inr e)
    by_cases hk : zbd c = 3
    · rw [znP h2 h3 hk] at h ⊢
      rcases zju ws with ⟨e, he, h4⟩ | ⟨s, n, he, h4, h5, h6⟩
      · rw [he] at h; simp only at h; omega
      · rw [he]; simp only [Int.toNat_natCast]; exact ⟨h4, h5, h2, hk.symm⟩
    · rw [zpv h2 h3 hk] at h ⊢
      exact ⟨Nat.le_refl _, by (try dsimp only); omega, h2, rfl⟩
def zhL (fm : FormL) (bound : Int) : Nat → Nat → List Int → List ArgP × Int
  | 0, _, _ => ([], 0)
  | n + 1, k, ws => if ws.length = 0 ∧ fm.fixed.length ≤ k then ([], 0)
    else if (ze3 (zav fm k) ws bound).2.2 ≠ 0 then ([], (ze3 (zav fm k) ws bound).2.2)
    else ((ze3 (zav fm k) ws bound).1 :: (zhL fm bound n (k + 1) (ws.drop (ze3 (zav fm k) ws bound).2.1)).1, (zhL fm bound n (k + 1) (ws.drop (ze3 (zav fm k) ws bound).2.1)).2)
theorem zg2 {fm : FormL} {bound : Int} : ∀ n n' k ws, ws.length < n → ws.length < n' → zhL fm bound n k ws = zhL fm bound n' k ws
  | 0, _, _, _, h, _ => absurd h (Nat.not_lt_zero _)
  | _, 0, _, _, _, h => absurd h (Nat.not_lt_zero _)
  | n + 1, n' + 1, k, ws, h, h' => by
    rw [zhL, zhL]
    by_cases h1 : ws.length = 0 ∧ fm.fixed.length ≤ k
    · rw [if_pos h1, if_pos h1]
    · rw [if_neg h1, if_neg h1]
      by_cases h2 : (ze3 (zav fm k) ws bound).2.2 ≠ 0
      · rw [if_pos h2, if_pos h2]
      · have h3 := zj2 (Nn h2)
        rw [if_neg h2, if_neg h2, zg2 n n' _ _ (by rw [List.length_drop]; omega) (by rw [List.length_drop]; omega)]
abbrev zgw (fm : FormL) (bound : Int) (k : Nat) (ws : List Int) : List ArgP × Int := zhL fm bound (ws.length + 1) k ws
theorem ziZ {fm : FormL} {bound : Int} {k : Nat} {ws : List Int} (h : ws.length > 0 ∨ k < fm.fixed.length) (he : (ze3 (zav fm k) ws bound).2.2 ≠ 0) : zgw fm bound k ws = ([], (ze3 (zav fm k) ws bound).2.2) := by
  unfold zgw; rw [zhL, if_neg (by omega), if_pos he]
theorem zl2 {fm : FormL} {bound : Int} {k : Nat} {ws : List Int} {a : ArgP} {m : Nat} (h : ws.length > 0 ∨ k < fm.fixed.length) (he : ze3 (zav fm k) ws bound = (a, m, 0)) : zgw fm bound k ws = (a :: (zgw fm bound (k + 1) (ws.drop m)).1, (zgw fm bound (k + 1) (ws.drop m)).2) := by
  have h0 : (ze3 (zav fm k) ws bound).2.2 = 0 := by rw [he]
  have h3 := zj2 h0
  unfold zgw
  rw [zhL, if_neg (by omega), if_neg (fun e => e h0)]
  rw [he] at h3 ⊢
  dsimp only at h3 ⊢
  rw [zg2 ws.length ((ws.drop m).length + 1) _ _ (by rw [List.length_drop]; omega) (by omega)]
theorem zlP {op : Int} {ags : List ArgP} (h : ∀ j, j < ags.length → zav (zaO op) (j : Int) ≠ 0 ∧ (ags.getD j zeroA).kind = zbd (zav (zaO op) (j : Int))) : zg0 (zaO op) 0 (ags.map ArgP.kind) = none := by
  refine ziW fun j hj => ?_
  simp only [List.length_map] at hj
  have hh := h j hj
  have e : (ags.map ArgP.kind)[j]'(by simpa using hj) = (ags.getD j zeroA).kind := by simp [List.getD, hj]
  rw [e, hh.2, Nat.zero_add]
  intro hb
  rcases hb with hb | hb
  · exact zee op j hh.1 hb
  · exact hb rfl
def zda (op : Int) (ags : List ArgP) : Int := if (zdj op (ags.map ArgP.kind)).2 = true then 0 else 42
theorem zmB {op : Int} {ags : List ArgP} (hob : (zcR op).isSome = true) (h : zg0 (zaO op) 0 (ags.map ArgP.kind) = none) : zda op ags = if zjH (zaO op) ags.length then 42 else 0 := by
  unfold zda
  rw [zct (fm := zaO op) hob rfl rfl]
  by_cases ho : zjH (zaO op) ags.length
  · rw [zf3 h (by rwa [List.length_map]), if_pos ho]; rfl
  · rw [zfB h (by rwa [List.length_map]), if_neg ho]; rfl
def b2n (b : Bool) : Nat := if b = true then 1 else 0
def zcM (fm : FormL) (l : List Int) (bound : Int) : Nat × Int :=
  if fm.ty = true ∧ l.length = 0 then (0, 40)
  else if fm.ty = true ∧ idE (l.getD 0 0) bound ≠ 0 then (0, 43)
  else if fm.res = true ∧ l.length = b2n fm.ty then (0, 41)
  else if fm.res = true ∧ idE (l.getD (b2n fm.ty) 0) bound ≠ 0 then (0, 43)
  else (b2n fm.ty + b2n fm.res, 0)
def zbg : InstL := ⟨0, 0, 0, []⟩
def znM (a : ArgP) : List Int := if a.kind = 3 then zbu a.s else [a.n]
def zaD (a : ArgP) : Nat := if a.kind = 3 then a.s.length / 4 + 1 else 1
def za2 (c : Int) (a : ArgP) (bound : Int) : Int :=
  if c = 0 ∨ a.kind ≠ zbd c then 42
  else if (a.kind = 3 ∧ a.n ≠ 0) ∨ (a.kind ≠ 3 ∧ a.s ≠ []) then 42
  else if a.kind = 1 ∧ idE a.n bound ≠ 0 then 43
  else if a.kind = 4 ∧ zdS c a.n ≠ 0 then 31
  else if zbb a.s ≠ a.s.length then 13 else 0
def idH (must : Bool) (n bound e : Int) : Int := if must ≠ decide (n ≠ 0) then e else if must = true ∧ n ≥ bound then 43 else 0
def za6 (fm : FormL) (bound : Int) : Nat → List ArgP → Int
  | _, [] => 0
  | k, a :: ags => if za2 (zav fm k) a bound ≠ 0 then za2 (zav fm k) a bound else za6 fm bound (k + 1) ags
def zns (fm : FormL) (ty res : Int) : List Int := (if fm.ty = true then [ty] else []) ++ (if fm.res = true then [res] else [])
def zbD (fm : FormL) (ags : List ArgP) : Nat := 1 + (b2n fm.ty + b2n fm.res) + (ags.map zaD).sum
def za3 (bound : Int) (i : InstL) : Int :=
  if (zcR i.op).isSome = false then 30
  else if idH (zaO i.op).ty i.ty bound 40 ≠ 0 then idH (zaO i.op).ty i.ty bound 40
  else if idH (zaO i.op).res i.res bound 41 ≠ 0 then idH (zaO i.op).res i.res bound 41
  else if za6 (zaO i.op) bound 0 i.args ≠ 0 then za6 (zaO i.op) bound 0 i.args
  else if zjH (zaO i.op) i.args.length then 42
  else if zbD (zaO i.op) i.args > 65535 then 25 else 0
def zfH (fm : FormL) (i : InstL) : List Int := zns fm i.ty i.res ++ i.args.flatMap znM
def zjk (bound : Int) (i : InstL) : RawL × Int := if za3 bound i ≠ 0 then ((0, []), za3 bound i) else ((i.op, zfH (zaO i.op) i), 0)
end Go.SK
namespace Go.SK
def zjQ (fm : FormL) (bound : Int) (l : List Int) : List ArgP × Int :=
  if (zcM fm l bound).2 ≠ 0 then ([], (zcM fm l bound).2) else zgw fm bound 0 (l.drop (b2n fm.ty + b2n fm.res))
section
variable {fm : FormL} {bound op : Int} {l : List Int}
theorem zgR (h : (zcM fm l bound).2 ≠ 0) : zjQ fm bound l = ([], (zcM fm l bound).2) := if_pos h
theorem zlS (h : (zcM fm l bound).2 = 0) : zjQ fm bound l = zgw fm bound 0 (l.drop (b2n fm.ty + b2n fm.res)) := if_neg (fun e => e h)
theorem zfn {α : Type} {x y : α} : (if (0 : Int) ≠ 0 then x else y) = y := if_neg (fun h => h rfl)
def H1 (fm : FormL) (l : List Int) (bound : Int) (a : Nat) (ty e : Int) : Prop := a ≤ l.length ∧ (e = 0 → a = b2n fm.ty ∧ ty = (if fm.ty = true then l.getD 0 0 else 0) ∧ ¬ (fm.ty = true ∧ l.length = 0) ∧ ¬ (fm.ty = true ∧ idE (l.getD 0 0) bound ≠ 0)) ∧ (e ≠ 0 → (zcM fm l bound).2 = e)
theorem H1.lacks (h : fm.ty = true) (hl : l.length = 0) : H1 fm l bound 0 0 40 := ⟨Nat.zero_le _, fun hx => absurd hx (by decide), fun _ => by unfold zcM; rw [if_pos ⟨h, hl⟩]⟩
theorem H1.word (h : fm.ty = true) (hl : 0 < l.length) : H1 fm l bound 1 (l.getD 0 0) (idE (l.getD 0 0) bound) := by
  refine ⟨hl, fun he => ⟨by rw [b2n, h]; rfl, by rw [h]; rfl, fun h2 => by omega, fun h2 => h2.2 he⟩, fun he => ?_⟩
  have h43 : idE (l.getD 0 0) bound = 43 := by
    unfold idE at he ⊢; split
    · rfl
    · rename_i hn; rw [if_neg hn] at he; exact absurd rfl he
  unfold zcM
  rw [if_neg (fun h2 => by omega), if_pos ⟨h, he⟩, h43]
def H2 (fm : FormL) (l : List Int) (bound : Int) (a : Nat) (ty res e : Int) : Prop := a ≤ l.length ∧ (e = 0 → (zcM fm l bound).2 = 0 ∧ a = b2n fm.ty + b2n fm.res ∧ ty = (if fm.ty = true then l.getD 0 0 else 0) ∧ res = (if fm.res = true then l.getD (b2n fm.ty) 0 else 0)) ∧ (e ≠ 0 → (zcM fm l bound).2 = e)
theorem H2.err {a : Nat} {ty e : Int} (h : H1 fm l bound a ty e) (he : e ≠ 0) : H2 fm l bound a ty 0 e := ⟨h.1, fun h2 => absurd h2 he, h.2.2⟩
theorem H2.lacks {a : Nat} {ty : Int} (h : H1 fm l bound a ty 0) (hr : fm.res = true) (hl : a = l.length) : H2 fm l bound a ty 0 41 := by
  have h1 := h.2.1 rfl
  refine ⟨h.1, fun hx => absurd hx De, fun _ => ?_⟩
  unfold zcM
  rw [if_neg h1.2.2.1, if_neg h1.2.2.2, if_pos ⟨hr, by omega⟩]
theorem H2.word {a : Nat} {ty : Int} (h : H1 fm l bound a ty 0) (hr : fm.res = true) (hl : a < l.length) : H2 fm l bound (a + 1) ty (l.getD a 0) (idE (l.getD a 0) bound) := by
  have h1 := h.2.1 rfl
  have ha := h1.1
  subst ha
  refine ⟨hl, fun he => ⟨?_, by rw [b2n.eq_def fm.res, hr]; rfl, h1.2.1, by rw [hr]; rfl⟩, fun he => ?_⟩
  · unfold zcM
    rw [if_neg h1.2.2.1, if_neg h1.2.2.2, if_neg (fun h2 => by omega), if_neg (fun h2 => h2.2 he)]
  · have h43 : idE (l.getD (b2n fm.ty) 0) bound = 43 := by
      unfold idE at he ⊢; split
      · rfl
      · rename_i hn; rw [if_neg hn] at he; exact absurd rfl he
    unfold zcM
    rw [if_neg h1.2.2.1, if_neg h1.2.2.2, if_neg (fun h2 => by omega), if_pos ⟨hr, he⟩, h43]
theorem H2.zero {a : Nat} {ty res e : Int} (h : H2 fm l bound a ty res e) (hs : (zjQ fm bound l).2 = 0) : e = 0 := Classical.byContradiction fun he => by
  have h1 := h.2.2 he
  rw [zgR (by rw [h1]; exact he), h1] at hs
  exact he hs
def A1 (fm : FormL) (l : List Int) (bound : Int) (a : Nat) (e : Int) (ags : List ArgP) : Prop := a ≤ l.length ∧ ags.length ≤ a + 1 ∧ (e = 0 → ags.length ≤ a ∧ ags ++ (zgw fm bound ags.length (l.drop a)).1 = (zjQ fm bound l).1 ∧ (zgw fm bound ags.length (l.drop a)).2 = (zjQ fm bound l).2) ∧ (e ≠ 0 → (zjQ fm bound l).2 = e)
theorem A1.start {a : Nat} {ty res e : Int} (h : H2 fm l bound a ty res e) : A1 fm l bound a e [] := by
  refine ⟨h.1, Nat.zero_le _, fun he => ⟨Nat.zero_le _, ?_⟩, fun he => ?_⟩
  · have h1 := h.2.1 he
    rw [zlS h1.1, ← h1.2.1]
    exact ⟨rfl, rfl⟩
  · have h1 := h.2.2 he
    rw [zgR (by rw [h1]; exact he), h1]
theorem A1.step {a a2 : Nat} {ags ags2 : List ArgP} {c : Int} (h : A1 fm l bound a 0 ags) (hc : zav fm (ags.length : Int) = c) (hgo : l.length - a > 0 ∨ ags.length < fm.fixed.length)
    (hE : (ze3 c (l.drop a) bound).2.2 = 0 → a2 = a + (ze3 c (l.drop a) bound).2.1 ∧ ags2 = ags ++ [(ze3 c (l.drop a) bound).1]) (ha2 : a2 ≤ l.length) (hn : ags2.length ≤ ags.length + 1) (hle : a ≤ a2 ∨ (ze3 c (l.drop a) bound).2.2 = 0) : A1 fm l bound a2 (ze3 c (l.drop a) bound).2.2 ags2 := by
  subst hc
  have h1 := h.2.2.1 rfl
  refine ⟨ha2, ?_, fun he => ?_, fun he => ?_⟩
  · rcases hle with hh | hh
    · omega
    · have := hE hh; omega
  · have h2 := hE he
    have h3 := zj2 he
    have hs := zl2 (fm := fm) (bound := bound) (k := ags.length) (ws := l.drop a) (a := (ze3 (zav fm ags.length) (l.drop a) bound).1) (m := (ze3 (zav fm ags.length) (l.drop a) bound).2.1) (by rw [List.length_drop]; omega) (by rw [← he])
    rw [List.drop_drop] at hs
    rw [h2.1, h2.2, List.length_append, List.length_singleton]
    rw [hs] at h1
    exact ⟨by omega, by rw [List.append_assoc]; exact h1.2.1, h1.2.2⟩
  · rw [← h1.2.2, ziZ (by rw [List.length_drop]; omega) he]
def A1mu (n a : Nat) (e : Int) : Nat := if e = 0 then n - a + 1 else 0
theorem A1mu.step {n a a2 : Nat} {e2 : Int} (h : e2 = 0 → a < a2 ∧ a2 ≤ n) : A1mu n a2 e2 < A1mu n a 0 := by
  unfold A1mu
  rw [if_pos rfl]
  split
  · rename_i he; have := h he; omega
  · omega
end
end Go.SK
namespace Go.SK
section
variable {fm : FormL} {bound : Int} {l : List Int}
theorem A1.err {a : Nat} {ags : List ArgP} {c e : Int} (h : A1 fm l bound a 0 ags) (hc : zav fm (ags.length : Int) = c) (hgo : l.length - a > 0 ∨ ags.length < fm.fixed.length) (hE : (ze3 c (l.drop a) bound).2.2 = e) (he : e ≠ 0) : (zjQ fm bound l).2 = e := by
  subst hc
  have h1 := h.2.2.1 rfl
  rw [← h1.2.2, ziZ (by rw [List.length_drop]; omega) (by rw [hE]; exact he), hE]
end
end Go.SK
namespace Go.SK
open Go.RowKit Go.ChangeShapes Go.WideShapes Go.ChangeAt
abbrev WrC (Tc Tw : TypeId) (bq : Nat) (fm : FormL) (bound : Int) (ao : Option Addr) (cp : Nat) (ws : List Int) (room : Int) : Res :=
  Res.star [Res.row bq Tc [.int .u16 fm.op, str fm.name, .bool fm.ty, .bool fm.res, str fm.fixed, str fm.rest, .int .i64 fm.most, .int .u8 fm.part, .int .u32 bound, .slice ao ws.length cp, .int .i64 room], Res.sl ao ws.length cp Tw 1 (ws.flatMap zgl)]
def zlE (must : Bool) (n : Int) : List Int := if must = true then [n] else []
theorem znn {must : Bool} {n bound e : Int} (h : must ≠ decide (n ≠ 0)) : idH must n bound e = e := if_pos h
theorem idH_no {must : Bool} {n bound e : Int} (h : ¬ must ≠ decide (n ≠ 0)) (hm : must = false) : idH must n bound e = 0 := by unfold idH; rw [if_neg h, if_neg (by rw [hm]; simp)]
theorem idH_id {must : Bool} {n bound e : Int} (h : ¬ must ≠ decide (n ≠ 0)) (hm : must = true) : idH must n bound e = idE n bound := by
  subst hm
  have hn : n ≠ 0 := by
    intro e; apply h; subst e; decide
  unfold idH idE
  rw [if_neg h]
  by_cases hb : n ≥ bound
  · rw [if_pos ⟨rfl, hb⟩, if_pos (.inr hb)]
  · rw [if_neg (fun hx => hb hx.2), if_neg (fun hx => hx.elim hn hb)]
def zln (s : List UInt8) : Int := if zbb s ≠ s.length then 13 else 0
theorem zeQ {s : List UInt8} (h : zbN s = 0) : (zbu s).length = s.length / 4 + 1 := by
  rw [zgL h, zeM, zgJ]; omega
theorem zna (s : List UInt8) : (zbu s).length ≤ s.length / 4 + 1 := by
  by_cases h : zbN s = 0
  · rw [zeQ h]; exact Nat.le_refl _
  · rw [zcW h]; exact Nat.zero_le _
section
variable {c bound : Int} {a : ArgP}
theorem zcT (h : c = 0 ∨ a.kind ≠ zbd c ∨ (a.kind = 3 ∧ a.n ≠ 0) ∨ (a.kind ≠ 3 ∧ a.s ≠ [])) : za2 c a bound = 42 := by
  unfold za2
  by_cases h1 : c = 0 ∨ a.kind ≠ zbd c
  · rw [if_pos h1]
  · rw [if_neg h1]
    rcases h with h | h | h
    · exact absurd (.inl h) h1
    · exact absurd (.inr h) h1
    · rw [if_pos h]
theorem zjn (h : ¬ c = 0) (hk : ¬ a.kind ≠ zbd c) (h3 : a.kind = 3) (hn : ¬ a.n ≠ 0) : za2 c a bound = zln a.s := by
  unfold za2
  rw [if_neg (fun hx => hx.elim h hk), if_neg (fun hx => hx.elim (fun hy => hn hy.2) (fun hy => hy.1 h3)), if_neg (by omega), if_neg (by omega)]
  rfl
theorem zeI (h : ¬ c = 0) (hk : ¬ a.kind ≠ zbd c) (h3 : ¬ a.kind = 3) (hs : ¬ a.s ≠ []) : za2 c a bound = if a.kind = 1 then idE a.n bound else if a.kind = 4 then zdS c a.n else 0 := by
  have hs0 : a.s = [] := Nn hs
  have hz : ¬ zbb a.s ≠ a.s.length := by rw [hs0]; simp [zbb]
  unfold za2
  rw [if_neg (fun hx => hx.elim h hk), if_neg (fun hx => hx.elim (fun hy => h3 hy.1) (fun hy => hs hy.2))]
  by_cases k1 : a.kind = 1
  · rw [if_pos k1]
    by_cases he : idE a.n bound = 0
    · rw [if_neg (fun hx => hx.2 he), if_neg (by omega), if_neg hz, he]
    · rw [if_pos ⟨k1, he⟩]
      unfold idE at he ⊢; split
      · rfl
      · rename_i hn; rw [if_neg hn] at he; exact absurd rfl he
  · rw [if_neg k1, if_neg (fun hx => k1 hx.1)]
    by_cases k4 : a.kind = 4
    · rw [if_pos k4]
      by_cases he : zdS c a.n = 0
      · rw [if_neg (fun hx => hx.2 he), if_neg hz, he]
      · rw [if_pos ⟨k4, he⟩]
        unfold zdS at he ⊢; split
        · rename_i hn; rw [if_pos hn] at he; exact absurd rfl he
        · rfl
    · rw [if_neg k4, if_neg (fun hx => k4 hx.1), if_neg hz]
theorem zew (h : a.kind = 3) : znM a = zbu a.s ∧ zaD a = a.s.length / 4 + 1 := by unfold znM zaD; rw [if_pos h, if_pos h]; exact ⟨rfl, rfl⟩
theorem zex (h : ¬ a.kind = 3) : znM a = [a.n] ∧ zaD a = 1 := by unfold znM zaD; rw [if_neg h, if_neg h]; exact ⟨rfl, rfl⟩
end
end Go.SK
namespace Go.SK
open Go.RowKit Go.ChangeShapes Go.WideShapes Go.ChangeAt
section
variable {bound : Int} {i : InstL}
theorem ziN (h : (zcR i.op).isSome = false) : za3 bound i = 30 := if_pos h
theorem zdn (h : (zcR i.op).isSome = true) : za3 bound i = if idH (zaO i.op).ty i.ty bound 40 ≠ 0 then idH (zaO i.op).ty i.ty bound 40
  else if idH (zaO i.op).res i.res bound 41 ≠ 0 then idH (zaO i.op).res i.res bound 41
  else if za6 (zaO i.op) bound 0 i.args ≠ 0 then za6 (zaO i.op) bound 0 i.args
  else if zjH (zaO i.op) i.args.length then 42
  else if zbD (zaO i.op) i.args > 65535 then 25 else 0 := by
  unfold za3; rw [if_neg (by rw [h]; decide)]
theorem zeH {fm : FormL} {ys : List ArgP} : ∀ (xs : List ArgP) (k : Nat), za6 fm bound k (xs ++ ys) = if za6 fm bound k xs ≠ 0 then za6 fm bound k xs else za6 fm bound (k + xs.length) ys
  | [], k => by simp [za6]
  | x :: xs, k => by
    rw [List.cons_append, za6, za6]
    by_cases h : za2 (zav fm k) x bound ≠ 0
    · rw [if_pos h, if_pos h, if_pos h]
    · rw [if_neg h, if_neg h, zeH xs (k + 1), List.length_cons, show k + 1 + xs.length = k + (xs.length + 1) by omega]
theorem zjm {fm : FormL} {l : List ArgP} {k : Nat} (hk : k < l.length) (h : za6 fm bound 0 (l.take k) = 0) : (za6 fm bound 0 (l.take (k + 1)) = za2 (zav fm (k : Int)) (l.getD k zeroA) bound) ∧ (za2 (zav fm (k : Int)) (l.getD k zeroA) bound ≠ 0 → za6 fm bound 0 l = za2 (zav fm (k : Int)) (l.getD k zeroA) bound) := by
  have hl : (l.take k).length = k := by rw [List.length_take]; omega
  constructor
  · rw [zbL (d := zeroA) hk, zeH, if_neg (fun e => e h), hl, Nat.zero_add, za6]
    by_cases he : za2 (zav fm (k : Int)) (l.getD k zeroA) bound ≠ 0
    · rw [if_pos he]
    · rw [if_neg he, za6, Nn he]
  · intro he
    have e : l = l.take k ++ (l.getD k zeroA :: l.drop (k + 1)) := by
      have := List.take_append_drop k l
      rw [List.drop_eq_getElem_cons hk] at this
      simp only [List.getD, List.getElem?_eq_getElem hk, Option.getD_some]
      exact this.symm
    conv => lhs; rw [e]
    rw [zeH, if_neg (fun e => e h), hl, Nat.zero_add, za6, if_pos he]
theorem ze7 {fm : FormL} : ∀ (l : List ArgP) (k : Nat), za6 fm bound k l = 0 → ∀ j, j < l.length → zav fm ((k + j : Nat) : Int) ≠ 0 ∧ (l.getD j zeroA).kind = zbd (zav fm ((k + j : Nat) : Int))
  | [], k, _, j, hj => by simp at hj
  | x :: l, k, h, j, hj => by
    rw [za6] at h
    split at h
    · rename_i h1; exact absurd h h1
    · rename_i h1
      cases j with
      | zero =>
        have h2 := Nn h1
        unfold za2 at h2
        split at h2
        · cases h2
        · rename_i h3
          rw [Nat.add_zero]
          exact ⟨fun e => h3 (.inl e), Nn fun e => h3 (.inr (by simpa using e))⟩
      | succ j =>
        have := ze7 l (k + 1) h j (by simpa using hj)
        rw [show k + 1 + j = k + (j + 1) by omega] at this
        simpa using this
theorem zfG {op : Int} {l : List ArgP} (h : za6 (zaO op) bound 0 l = 0) : zg0 (zaO op) 0 (l.map ArgP.kind) = none :=
  zlP fun j hj => by
    have := ze7 l 0 h j hj
    rwa [Nat.zero_add] at this
def zmP (l : List ArgP) (k : Nat) : Nat := ((l.take k).map zaD).sum
theorem zh5 {l : List ArgP} {k : Nat} (hk : k < l.length) : zmP l (k + 1) = zmP l k + zaD (l.getD k zeroA) := by
  unfold zmP; rw [zbL (d := zeroA) hk]; simp
theorem zmO {l : List ArgP} {k : Nat} : zmP l k ≤ (l.map zaD).sum := by
  have := congrArg (fun l : List ArgP => (l.map zaD).sum) (List.take_append_drop k l)
  simp only [List.map_append, List.sum_append] at this
  unfold zmP; omega
theorem zj1 (a : ArgP) : 1 ≤ zaD a := by unfold zaD; split <;> omega
theorem zeU : ∀ l : List ArgP, l.length ≤ (l.map zaD).sum
  | [] => Nat.le_refl _
  | a :: l => by have := zeU l; have := zj1 a; simp only [List.length_cons, List.map_cons, List.sum_cons]; omega
structure RW (bound : Int) (i : InstL) (k : Nat) (ws : List Int) (room e : Int) : Prop where
  ok : e = 0 → idH (zaO i.op).ty i.ty bound 40 = 0 ∧ idH (zaO i.op).res i.res bound 41 = 0 ∧ za6 (zaO i.op) bound 0 (i.args.take k) = 0 ∧ ws = zns (zaO i.op) i.ty i.res ++ (i.args.take k).flatMap znM ∧ room = ((b2n (zaO i.op).ty + b2n (zaO i.op).res + zmP i.args k : Nat) : Int)
  err : e ≠ 0 → za3 bound i = e
  len : ws.length ≤ 2 + zmP i.args k
  r0 : 0 ≤ room
  r1 : room ≤ 2 + (zmP i.args k : Int)
theorem RW.ty (hs : (zcR i.op).isSome = true) {ws : List Int} {room : Int} (he : idH (zaO i.op).ty i.ty bound 40 ≠ 0) (hl : ws.length ≤ 0 + 1) (h0 : 0 ≤ room) (h1 : room ≤ 0 + 1) : RW bound i 0 ws room (idH (zaO i.op).ty i.ty bound 40) :=
  ⟨fun h => absurd h he, fun _ => by rw [zdn hs, if_pos he], by omega, h0, by omega⟩
theorem RW.start {ws2 : List Int} {room2 : Int} (hs : (zcR i.op).isSome = true) (h1 : idH (zaO i.op).ty i.ty bound 40 = 0)
    (h2 : idH (zaO i.op).res i.res bound 41 = 0 → ws2 = ([] ++ zlE (zaO i.op).ty i.ty) ++ zlE (zaO i.op).res i.res ∧ room2 = 0 + b2n (zaO i.op).ty + b2n (zaO i.op).res) (hl : ws2.length ≤ 2) (h0 : 0 ≤ room2) (hr : room2 ≤ 2) : RW bound i 0 ws2 room2 (idH (zaO i.op).res i.res bound 41) := by
  refine ⟨fun he => ?_, fun he => by rw [zdn hs, if_neg (fun e => e h1), if_pos he], by omega, h0, by omega⟩
  obtain ⟨e1, e2⟩ := h2 he
  refine ⟨h1, he, rfl, ?_, ?_⟩
  · rw [e1]; simp [zns, zlE]
  · rw [e2]; simp [zmP]
theorem RW.skip {k : Nat} {ws : List Int} {room e : Int} (h : RW bound i k ws room e) (he : e ≠ 0) (hk : k < i.args.length) : RW bound i (k + 1) ws room e := by
  have hs := zh5 hk
  exact ⟨fun h2 => absurd h2 he, h.err, by have := h.len; omega, h.r0, by have := h.r1; omega⟩
theorem RW.step {k : Nat} {ws ws2 : List Int} {room room2 : Int} (h : RW bound i k ws room 0) (hs : (zcR i.op).isSome = true) (hk : k < i.args.length)
    (hE : za2 (zav (zaO i.op) (k : Int)) (i.args.getD k zeroA) bound = 0 → ws2 = ws ++ znM (i.args.getD k zeroA) ∧ room2 = room + (zaD (i.args.getD k zeroA) : Int)) (hl : ws2.length ≤ ws.length + zaD (i.args.getD k zeroA)) (h0 : 0 ≤ room2) (hr : room2 ≤ room + (zaD (i.args.getD k zeroA) : Int)) :
    RW bound i (k + 1) ws2 room2 (za2 (zav (zaO i.op) (k : Int)) (i.args.getD k zeroA) bound) := by
  have hsum := zh5 hk
  have ho := h.ok rfl
  have ht := zjm hk ho.2.2.1
  refine ⟨fun he => ?_, fun he => ?_, by have := h.len; omega, h0, by have := h.r1; omega⟩
  · obtain ⟨e1, e2⟩ := hE he
    refine ⟨ho.1, ho.2.1, ht.1.trans he, ?_, ?_⟩
    · rw [e1, ho.2.2.2.1, zbL (d := zeroA) hk]; simp
    · rw [e2, ho.2.2.2.2, hsum]; omega
  · rw [zdn hs, if_neg (fun e => e ho.1), if_neg (fun e => e ho.2.1), if_pos (by rw [ht.2 he]; exact he), ht.2 he]
theorem RW.full {ws : List Int} {room : Int} (h : RW bound i i.args.length ws room 0) (hs : (zcR i.op).isSome = true) : ws = zfH (zaO i.op) i ∧ room + 1 = (zbD (zaO i.op) i.args : Int) ∧ za3 bound i = if zda i.op i.args ≠ 0 then zda i.op i.args else if zbD (zaO i.op) i.args > 65535 then 25 else 0 := by
  have ho := h.ok rfl
  rw [List.take_length] at ho
  refine ⟨ho.2.2.2.1, ?_, ?_⟩
  · rw [ho.2.2.2.2]; unfold zmP zbD; rw [List.take_length]; omega
  · rw [zdn hs, if_neg (fun e => e ho.1), if_neg (fun e => e ho.2.1), if_neg (fun e => e ho.2.2.1), zmB hs (zfG ho.2.2.1)]
    by_cases hf : zjH (zaO i.op) i.args.length
    · rw [if_pos hf, if_pos hf, if_pos (by decide)]
    · rw [if_neg hf, if_neg hf, zfn]
theorem zeg {e : Int} (h : za3 bound i = e) (he : e ≠ 0) : zjk bound i = ((0, []), e) := by unfold zjk; rw [h, if_pos he]
theorem zmX (h : za3 bound i = 0) : zjk bound i = ((i.op, zfH (zaO i.op) i), 0) := by unfold zjk; rw [if_neg (fun e => e h)]
end
end Go.SK
namespace Go.SK
open Go.RowKit Go.ChangeShapes Go.WideShapes Go.ChangeAt
def zbF (bound : Int) : Nat → Nat → List InstL → Int × Int
  | _, _, [] => (0, 0)
  | n, k, i :: is => if za3 bound i ≠ 0 then (za3 bound i, (k : Int)) else if n + zbD (zaO i.op) i.args > 1048576 then (4, (k : Int)) else zbF bound (n + zbD (zaO i.op) i.args) (k + 1) is
def za7 (bound : Int) (l : List InstL) : Int × Int := if bound = 0 ∨ bound > 65536 then (24, 0) else zbF bound 5 0 l
abbrev zhn (bound : Int) (l : List InstL) : List RawL := l.map fun i => (zjk bound i).1
def zd3 : InstL := ⟨0, 0, 0, []⟩
section
variable {bound : Int}
theorem zlw {i : InstL} : (zjk bound i).2 = za3 bound i := by
  unfold zjk; split
  · rfl
  · rename_i h; exact (Nn h).symm
theorem zjW {i : InstL} (h : za3 bound i = 0) : (zcR i.op).isSome = true ∧ idH (zaO i.op).ty i.ty bound 40 = 0 ∧ idH (zaO i.op).res i.res bound 41 = 0 ∧ za6 (zaO i.op) bound 0 i.args = 0 ∧ ¬ zjH (zaO i.op) i.args.length ∧ zbD (zaO i.op) i.args ≤ 65535 := by
  cases hs : (zcR i.op).isSome with
  | false => rw [ziN hs] at h; cases h
  | true =>
    rw [zdn hs] at h
    split at h
    · rename_i h1; exact absurd h h1
    · rename_i h1
      split at h
      · rename_i h2; exact absurd h h2
      · rename_i h2
        split at h
        · rename_i h3; exact absurd h h3
        · rename_i h3
          split at h
          · cases h
          · rename_i h4
            split at h
            · cases h
            · rename_i h5
              exact ⟨rfl, Nn h1, Nn h2, Nn h3, h4, by omega⟩
theorem zgC {fm : FormL} : ∀ (l : List ArgP) (k : Nat), za6 fm bound k l = 0 → ∀ a ∈ l, ∃ c : Int, za2 c a bound = 0
  | [], _, _, a, h => by cases h
  | x :: l, k, h, a, ha => by
    rw [za6] at h
    split at h
    · rename_i h1; exact absurd h h1
    · rename_i h1
      cases ha with
      | head => exact ⟨_, Nn h1⟩
      | tail _ ha => exact zgC l (k + 1) h a ha
theorem zbB {c : Int} {a : ArgP} (h : za2 c a bound = 0) : c ≠ 0 ∧ a.kind = zbd c ∧ (a.kind = 3 → a.n = 0) ∧ (a.kind ≠ 3 → a.s = []) ∧ (a.kind = 1 → idE a.n bound = 0) ∧ (a.kind = 4 → zdS c a.n = 0) ∧ zbb a.s = a.s.length := by
  unfold za2 at h
  split at h
  · cases h
  · rename_i h1
    split at h
    · cases h
    · rename_i h2
      split at h
      · cases h
      · rename_i h3
        split at h
        · cases h
        · rename_i h4
          split at h
          · cases h
          · rename_i h5
            exact ⟨fun e => h1 (.inl e), Nn fun e => h1 (.inr e), fun k => Nn fun e => h2 (.inl ⟨k, e⟩), fun k => Nn fun e => h2 (.inr ⟨k, e⟩), fun k => Nn fun e => h3 ⟨k, e⟩, fun k => Nn fun e => h4 ⟨k, e⟩, Nn h5⟩
theorem zj0 {l : List ArgP} {a : ArgP} (h : a ∈ l) : zaD a ≤ (l.map zaD).sum := by
  induction l with
  | nil => cases h
  | cons x l ih =>
    simp only [List.map_cons, List.sum_cons]
    cases h with
    | head => omega
    | tail _ h => have := ih h; omega
theorem zps {c : Int} {a : ArgP} (h : za2 c a bound = 0) (hr : zaD a ≤ 65535) : (znM a).length = zaD a := by
  have hz := (zbB h).2.2.2.2.2.2
  by_cases hk : a.kind = 3
  · rw [(zew hk).1, (zew hk).2]
    rw [(zew hk).2] at hr
    exact zeQ (by unfold zbN; rw [if_neg (fun e => e hz), if_neg (by omega)])
  · rw [(zex hk).1, (zex hk).2]; rfl
theorem ziH : ∀ {l : List ArgP}, (∀ a ∈ l, (znM a).length = zaD a) → (l.flatMap znM).length = (l.map zaD).sum
  | [], _ => rfl
  | a :: l, h => by
    simp only [List.flatMap_cons, List.length_append, List.map_cons, List.sum_cons]
    rw [h a (.head _), ziH fun b hb => h b (.tail _ hb)]
theorem zle {i : InstL} (h : za3 bound i = 0) : (zfH (zaO i.op) i).length + 1 = zbD (zaO i.op) i.args ∧ (zfH (zaO i.op) i).length < 65535 := by
  have hp := zjW h
  have hl : (zfH (zaO i.op) i).length + 1 = zbD (zaO i.op) i.args := by
    have hr := hp.2.2.2.2.2
    unfold zfH zbD at *
    rw [List.length_append, ziH (fun a ha => by
      obtain ⟨c, hc⟩ := zgC _ _ hp.2.2.2.1 a ha
      exact zps hc (by have := zj0 ha; omega))]
    have : (zns (zaO i.op) i.ty i.res).length = b2n (zaO i.op).ty + b2n (zaO i.op).res := by
      unfold zns b2n; split <;> split <;> simp
    omega
  exact ⟨hl, by omega⟩
theorem zjx {n k : Nat} {l : List InstL} {j : Nat} (h : j < l.length) : zbF bound n k (l.drop j) = if za3 bound (l.getD j zd3) ≠ 0 then (za3 bound (l.getD j zd3), (k : Int)) else if n + zbD (zaO (l.getD j zd3).op) (l.getD j zd3).args > 1048576 then (4, (k : Int)) else zbF bound (n + zbD (zaO (l.getD j zd3).op) (l.getD j zd3).args) (k + 1) (l.drop (j + 1)) := by
  have e : l.drop j = l.getD j zd3 :: l.drop (j + 1) := by
    rw [List.drop_eq_getElem_cons h]; simp [List.getD, h]
  rw [e, zbF]
theorem zlo {n k : Nat} {l : List InstL} : zbF bound n k (l.drop l.length) = (0, 0) := by rw [List.drop_of_length_le (Nat.le_refl _)]; rfl
theorem zfb {l : List InstL} (h : bound = 0 ∨ bound > 65536) : za7 bound l = (24, 0) := if_pos h
theorem zfN {l : List InstL} (h : ¬ bound = 0) (h2 : ¬ bound > 65536) : za7 bound l = zbF bound 5 0 l := if_neg fun h3 => h3.elim h h2
end
end Go.SK
namespace Go.SK
theorem zir {l : List InstP} {i : Nat} (h : i < l.length) : (l.map InstP.L).getD i zd3 = (l.getD i zeroI).L := zcJ InstP.L zeroI h
theorem zlv {bound : Int} {l : List InstP} {i : Nat} (h : i < l.length) : zhn bound ((l.map InstP.L).take (i + 1)) = zhn bound ((l.map InstP.L).take i) ++ [(zjk bound (l.getD i zeroI).L).1] := by
  rw [zbL (d := zd3) (by rw [List.length_map]; exact h), zir h]; simp [zhn]
theorem zoO {bound : Int} {i : InstL} {r : RawL} {e : Int} (h : zjk bound i = (r, e)) : e = za3 bound i ∧ (e = 0 → r.2.length + 1 = zbD (zaO i.op) i.args ∧ r.2.length < 65535 ∧ r.1 = i.op) ∧ (e ≠ 0 → r = (0, [])) := by
  have hf := zlw (bound := bound) (i := i)
  rw [h] at hf
  refine ⟨hf, fun he => ?_, fun he => ?_⟩
  · have h0 : za3 bound i = 0 := by rw [← hf]; exact he
    rw [zmX h0] at h
    injection h with h1 h2
    rw [← h1]
    have := zle h0
    exact ⟨this.1, this.2, rfl⟩
  · rw [zeg hf.symm he] at h
    injection h with h1 h2
    exact h1.symm
end Go.SK
namespace Go.SK
structure InstL.Okay (i : InstL) : Prop where
  op : 0 ≤ i.op ∧ i.op < 65536
  ty : 0 ≤ i.ty ∧ i.ty < 4294967296
  res : 0 ≤ i.res ∧ i.res < 4294967296
  args : ∀ a ∈ i.args, (0 ≤ a.n ∧ a.n < 4294967296) ∧ 0 ≤ a.kind ∧ a.kind < 256
theorem Wd.app {l m : List Int} (h1 : Wd l) (h2 : Wd m) : Wd (l ++ m) := fun x hx => (List.mem_append.1 hx).elim (h1 x) (h2 x)
theorem Wd.nil : Wd [] := fun x hx => by cases hx
theorem Wd.one {x : Int} (h : 0 ≤ x ∧ x < 4294967296) : Wd [x] := fun y hy => by cases hy with
  | head => exact h
  | tail _ h => cases h
end Go.SK
namespace Go.SK
open Go.RowKit Go.ChangeShapes Go.WideShapes Go.ChangeAt
abbrev DecL := (Int × Int × List InstL) × (Int × Int)
end Go.SK
namespace Go.SK
open Go.RowKit Go.ChangeShapes Go.WideShapes Go.ChangeAt
def oneL : List InstL := [⟨128, 1, 2, [⟨1, 3, []⟩, ⟨1, 4, []⟩]⟩]
structure Small (l : List InstP) : Prop where
  len : l.length ≤ 3000000000000
  op : ∀ i ∈ l, 0 ≤ i.op
  op2 : ∀ i ∈ l, i.op < 65536
  sum : ∀ i ∈ l, (i.args.map zaD).sum ≤ 900000000
  txt : ∀ i ∈ l, ∀ a ∈ i.args, a.s.length ≤ 100000000000
theorem Small.args {l : List InstP} (h : Small l) : ∀ i ∈ l, i.args.length ≤ 900000000 := fun i hi => Nat.le_trans (zeU i.args) (h.sum i hi)
theorem Small.of {l m : List InstP} (h : l.map InstP.L = m.map InstP.L) (hm : Small m) : Small l := by
  have key : ∀ i ∈ l, ∃ j ∈ m, j.op = i.op ∧ j.args = i.args := fun i hi => by
    have : i.L ∈ m.map InstP.L := h ▸ List.mem_map_of_mem hi
    obtain ⟨j, hj, he⟩ := List.mem_map.1 this
    exact ⟨j, hj, congrArg InstL.op he, congrArg InstL.args he⟩
  refine ⟨by rw [ziA h]; exact hm.len, fun i hi => ?_, fun i hi => ?_, fun i hi => ?_, fun i hi => ?_⟩ <;> obtain ⟨j, hj, h1, h2⟩ := key i hi
  · rw [← h1]; exact hm.op j hj
  · rw [← h1]; exact hm.op2 j hj
  · rw [← h2]; exact hm.sum j hj
  · rw [← h2]; exact hm.txt j hj
theorem Small.one {l : List InstP} (h : l.map InstP.L = oneL) : Small l :=
  Small.of (m := [⟨128, 1, 2, none, 0, [⟨1, 3, []⟩, ⟨1, 4, []⟩]⟩]) h ⟨by decide, by decide, by decide, by decide, by decide⟩
end Go.SK
namespace Go.SK
open Go.RowKit Go.ChangeShapes Go.WideShapes Go.ChangeAt
abbrev SQ := @zjB
abbrev RG := @zdu
abbrev NL := @RunL.nil
abbrev CN := @RunL.cons
abbrev TK := @RunL.take
abbrev OM := @znS
abbrev TP := @RV.tmp
section
variable {P : Program} {b : Base} {k : List Item} {f : Nat → Value} {w : World} {E : Frame → World → Prop} {ops : Array Oper} {l : List Oper} {d : Option Tmp} {ty : TypeId} {pos : String} {aft : Array Edge} {x : Operand}
theorem SR {id : Nat} {y : Code} (h : RunL P b l.toArray l (.code y :: k) f w E) : Run P b (.code (.seq (.region id l.toArray false) y) :: k) f w E := zjB (zdu h)
theorem NSR {l2 : List Oper} {id : Nat} {y : Code} (h : RunL P b l2.toArray l2 (.code y :: k) f w E) : RunL P b ops [] (.code (.seq (.region id l2.toArray false) y) :: k) f w E := RunL.nil (zjB (zdu h))
theorem NR {l2 : List Oper} {id : Nat} (h : RunL P b l2.toArray l2 k f w E) : RunL P b ops [] (.code (.region id l2.toArray false) :: k) f w E := RunL.nil (zdu h)
abbrev mvO (x : Operand) (d : Option Tmp) (ty : TypeId) (pos : String) (aft : Array Edge) : Oper := { dst := d, op := .move x, type := ty, pos := pos, after := aft, guard := none }
abbrev asO (x : Operand) (d : Option Tmp) (ty : TypeId) (pos : String) (aft : Array Edge) : Oper := { dst := d, op := .assign x, type := ty, pos := pos, after := aft, guard := none }
theorem MI {a : Int} (h : ev b.n f x = .int .i64 a) (hk : RunL P b ops l k (zeh f d (.int .i64 a)) w E) : RunL P b ops (mvO x d ty pos aft :: l) k f w E := RunL.cons (zad h hk)
theorem AI {a : Int} (h : ev b.n f x = .int .i64 a) (hk : RunL P b ops l k (zeh f d (.int .i64 a)) w E) : RunL P b ops (asO x d ty pos aft :: l) k f w E := RunL.cons (zaf h hk)
theorem MU {a : Int} (h : ev b.n f x = .int .u32 a) (hk : RunL P b ops l k (zeh f d (.int .u32 a)) w E) : RunL P b ops (mvO x d ty pos aft :: l) k f w E := RunL.cons (zad h hk)
theorem AU {a : Int} (h : ev b.n f x = .int .u32 a) (hk : RunL P b ops l k (zeh f d (.int .u32 a)) w E) : RunL P b ops (asO x d ty pos aft :: l) k f w E := RunL.cons (zaf h hk)
theorem MH {a : Int} (h : ev b.n f x = .int .u16 a) (hk : RunL P b ops l k (zeh f d (.int .u16 a)) w E) : RunL P b ops (mvO x d ty pos aft :: l) k f w E := RunL.cons (zad h hk)
theorem MC {a : Int} (h : ev b.n f x = .int .u8 a) (hk : RunL P b ops l k (zeh f d (.int .u8 a)) w E) : RunL P b ops (mvO x d ty pos aft :: l) k f w E := RunL.cons (zad h hk)
theorem AC {a : Int} (h : ev b.n f x = .int .u8 a) (hk : RunL P b ops l k (zeh f d (.int .u8 a)) w E) : RunL P b ops (asO x d ty pos aft :: l) k f w E := RunL.cons (zaf h hk)
theorem MB {a : Bool} (h : ev b.n f x = .bool a) (hk : RunL P b ops l k (zeh f d (.bool a)) w E) : RunL P b ops (mvO x d ty pos aft :: l) k f w E := RunL.cons (zad h hk)
theorem AB {a : Bool} (h : ev b.n f x = .bool a) (hk : RunL P b ops l k (zeh f d (.bool a)) w E) : RunL P b ops (asO x d ty pos aft :: l) k f w E := RunL.cons (zaf h hk)
theorem MS {a : List UInt8} (h : ev b.n f x = str a) (hk : RunL P b ops l k (zeh f d (str a)) w E) : RunL P b ops (mvO x d ty pos aft :: l) k f w E := RunL.cons (zad h hk)
theorem AS {a : List UInt8} (h : ev b.n f x = str a) (hk : RunL P b ops l k (zeh f d (str a)) w E) : RunL P b ops (asO x d ty pos aft :: l) k f w E := RunL.cons (zaf h hk)
theorem ML {a : Option Addr} {n c : Nat} (h : ev b.n f x = .slice a n c) (hk : RunL P b ops l k (zeh f d (.slice a n c)) w E) : RunL P b ops (mvO x d ty pos aft :: l) k f w E := RunL.cons (zad h hk)
theorem AL {a : Option Addr} {n c : Nat} (h : ev b.n f x = .slice a n c) (hk : RunL P b ops l k (zeh f d (.slice a n c)) w E) : RunL P b ops (asO x d ty pos aft :: l) k f w E := RunL.cons (zaf h hk)
theorem MP {a c : Nat} (h : ev b.n f x = .pointer (some ⟨a, c, none⟩)) (hk : RunL P b ops l k (zeh f d (.pointer (some ⟨a, c, none⟩))) w E) : RunL P b ops (mvO x d ty pos aft :: l) k f w E := RunL.cons (zad h hk)
theorem AP {a c : Nat} (h : ev b.n f x = .pointer (some ⟨a, c, none⟩)) (hk : RunL P b ops l k (zeh f d (.pointer (some ⟨a, c, none⟩))) w E) : RunL P b ops (asO x d ty pos aft :: l) k f w E := RunL.cons (zaf h hk)
end
section
variable {P : Program} {ty : TypeId} {ρ : Operand → Value} {w0 w : World} {C : Value → World → Prop} {M : Nat → Prop} {L L' D : List Res} {T T' : TypeId} {d : TypeDesc} {sz bytes : Nat} {zs : List Value} {x y : Operand} {b off : Nat} {v : Value} {l vs l' : List Value}
theorem SO (hst : St w0 M L D w) (hT : TyF P T d sz bytes zs) (hx : ρ x = .pointer (some ⟨b, off, none⟩)) (hy : ρ y = v) (hsel : Sel (Res.row b T' l) (Res.row b T' l') L L') (h : ∀ w' : World, St w0 M L' D w' → C undef w') (hv : v.cells = vs.toArray := by exact rfl) (hn : vs.length = sz := by exact rfl) (ho : vs.all zcr = true := by exact rfl) (hp : Put l off vs l' := by repeat (first | exact Put.nil | apply Put.put | apply Put.skip)) : Op1 P (.store T x y) ty ρ w C := zn9 hst hT hx hy hv hn ho hsel hp h
theorem Fills.c {place : Nat → Option (Nat × Nat)} {l vs l1 l' : List Value} {i : Nat} {x : Operand} {off size : Nat} {v : Value} {rest : List (Nat × Operand)} (hx : ρ x = v) (hp : place i = some (off, size) := by exact rfl) (hv : v.cells = vs.toArray := by exact rfl) (hn : vs.length = size := by exact rfl) (hs : Nat.ble 1 size = true := by exact rfl) (hput : Put l off vs l1 := by repeat (first | exact Put.nil | apply Put.put | apply Put.skip)) (h : Fills ρ place l1 rest l') : Fills ρ place l ((i, x) :: rest) l' := .cons hp hx hv hn hs hput h
theorem Ret.det {g : FuncId} {args : Array Value} (h : Ret P g args w (fun u w' => u = v ∧ St w NoM [] [] w')) (hst : St w0 M L D w) (hk : ∀ w' : World, St w0 M L D w' → C v w') : Ret P g args w C := h.mono fun _ w' ⟨e, hp⟩ => by subst e; exact hk w' (hst.keepc hp)
theorem zpx {g : FuncId} {args : Array Value} {v2 : Value} (h : Ret P g args w (fun u w' => u = v ∧ St w NoM [] [] w')) (e : v = v2) (hst : St w0 M L D w) (hk : ∀ w' : World, St w0 M L D w' → C v2 w') : Ret P g args w C := by subst e; exact Ret.det h hst hk
end
end Go.SK
namespace Go.SK
open Go.RowKit
abbrev Pp (a b : Nat) : Value := .pointer (some ⟨a, b, none⟩)
abbrev zo4 (x0 : Int) (x1 : List UInt8) (x2 : Int) : List Value := [.int .u8 x0, str x1, .int .i64 x2]
abbrev zgT (x0 : Int) (x1 : List UInt8) (x2 : Int) : Value := .agg #[.int .u8 x0, str x1, .int .i64 x2]
abbrev zgu (x0 : Int) (x1 : Int) (x2 : Int) (x3 : Option Addr) (x4 x5 : Nat) : List Value := [.int .u16 x0, .int .u32 x1, .int .u32 x2, .slice x3 x4 x5]
abbrev zdg (x0 : Int) (x1 : Int) (x2 : Int) (x3 : Option Addr) (x4 x5 : Nat) : Value := .agg #[.int .u16 x0, .int .u32 x1, .int .u32 x2, .slice x3 x4 x5]
abbrev znk (x0 : Int) (x1 : Int) (x2 : List UInt8) : List Value := [.int .u8 x0, .int .u32 x1, str x2]
abbrev zlW (x0 : Int) (x1 : Int) (x2 : List UInt8) : Value := .agg #[.int .u8 x0, .int .u32 x1, str x2]
abbrev zbm (x0 : Int) (x1 : List UInt8) (x2 : Bool) (x3 : Bool) (x4 : List UInt8) (x5 : List UInt8) (x6 : Int) (x7 : Int) : List Value := [.int .u16 x0, str x1, .bool x2, .bool x3, str x4, str x5, .int .i64 x6, .int .u8 x7]
abbrev zaJ (x0 : Int) (x1 : List UInt8) (x2 : Bool) (x3 : Bool) (x4 : List UInt8) (x5 : List UInt8) (x6 : Int) (x7 : Int) : Value := .agg #[.int .u16 x0, str x1, .bool x2, .bool x3, str x4, str x5, .int .i64 x6, .int .u8 x7]
abbrev zoh (x0 : Int) (x1 : Int) (x2 : Option Addr) (x3 x4 : Nat) : List Value := [.int .u32 x0, .int .u32 x1, .slice x2 x3 x4]
abbrev zgS (x0 : Int) (x1 : Int) (x2 : Option Addr) (x3 x4 : Nat) : Value := .agg #[.int .u32 x0, .int .u32 x1, .slice x2 x3 x4]
abbrev lII (x0 : Int) (x1 : Int) : List Value := [.int .i64 x0, .int .i64 x1]
abbrev gII (x0 : Int) (x1 : Int) : Value := .agg #[.int .i64 x0, .int .i64 x1]
abbrev lHL (x0 : Int) (x1 : Option Addr) (x2 x3 : Nat) : List Value := [.int .u16 x0, .slice x1 x2 x3]
abbrev gHL (x0 : Int) (x1 : Option Addr) (x2 x3 : Nat) : Value := .agg #[.int .u16 x0, .slice x1 x2 x3]
end Go.SK
namespace Go.SK
open Go.RowKit
section
variable {P : Program} {b : Base} {k : List Item} {E : Frame → World → Prop} {ops : Array Oper} {f : Nat → Value} {w0 w : World} {M : Nat → Prop} {L D : List Res} {pd : zja} {tk : zb5} {bs : List Nat} {ds : List (Option Nat)} {i : Nat} {l : List Oper} {ws : Nat → zfo} {n : Nat} {f' : Nat → Value} {L' : List Res} {w' : World}
theorem Know1.z {v : Value} (hc : Know1 tk bs ds f w0 M L D i ws f' L' w') : ∃ rs, SK.det v v rs ∧ St w0 M (rs ++ (L' ++ L)) D w' := ⟨[], ⟨rfl, rfl⟩, hc.st⟩
theorem Know1.d (hc : Know1 tk bs ds f w0 M L D i ws f' L' w') (j : Nat) {t : Nat} {v : Value} (hw : zl1 (bs.getD i 0) j = true) (hd : ds.getD j none = some t) (hj : ws j = cw (SK.det v)) (ht : Nat.blt t n = true) : ev n f' (.tmp t) = v := hc.det hw hd hj ht
theorem DO {v : Value} {d : Option Tmp} {op : Op} {ty : TypeId} {pos : String} {aft : Array Edge} (htab : DrawTab ops bs ds) (i' : Nat)
    (hv : ∀ f' L' w', Know1 tk bs ds f w0 M L D i ws f' L' w' → Op1 P op ty (ev b.n f') w' (fun u w'' => ∃ rs, SK.det v u rs ∧ St w0 M (rs ++ (L' ++ L)) D w''))
    (h : RunD tk pd P b ops bs ds k E f w0 M L D w i' l (zmm ws i (cw (SK.det v)))) (hi : i + 1 = i' := by rfl) (hd : zch op = false := by rfl) (hp : (pd.all fun p => !(Nat.beq p.1 i)) = true := by rfl) (hk : zpU tk i = true := by rfl) : RunD tk pd P b ops bs ds k E f w0 M L D w i (⟨d, op, ty, pos, aft, none⟩ :: l) ws := RunD.op (SK.det v) htab i' hv h hi hd hp hk
end
theorem zck {n : Int} (h1 : -9223372036854775808 ≤ n := by omega) (h2 : n ≤ 9223372036854775807 := by omega) : IntKind.i64.wrap n = n := zkp h1 h2
theorem Wi32 {n : Int} (h1 : -2147483648 ≤ n := by omega) (h2 : n ≤ 2147483647 := by omega) : IntKind.i32.wrap n = n := zom h1 h2
theorem Wu8 {n : Int} (h1 : 0 ≤ n := by omega) (h2 : n ≤ 255 := by omega) : IntKind.u8.wrap n = n := zmt h1 h2
theorem zq8 {n : Int} (h1 : 0 ≤ n := by omega) (h2 : n ≤ 4294967295 := by omega) : IntKind.u32.wrap n = n := wrap_u32 h1 h2
theorem zeF {n : Int} (h1 : 0 ≤ n := by omega) (h2 : n ≤ 18446744073709551615 := by omega) : IntKind.u64.wrap n = n := zol h1 h2
end Go.SK
namespace Go.SK
open Go.RowKit
theorem Rem.u0 {r : Res} {L : List Res} : Rem r (r :: L) (L) := .here
theorem Sel.u0 {r r' : Res} {L : List Res} : Sel r r' (r :: L) (r' :: L) := .here
theorem Q0 {α : Type} {y : α} {L : List α} : List.Mem y (y :: L) := .head _
theorem Rem.u1 {r : Res} {x0 : Res} {L : List Res} : Rem r (x0 :: r :: L) (x0 :: L) := .there .here
theorem Sel.u1 {r r' : Res} {x0 : Res} {L : List Res} : Sel r r' (x0 :: r :: L) (x0 :: r' :: L) := .there .here
theorem Q1 {α : Type} {y : α} {x0 : α} {L : List α} : List.Mem y (x0 :: y :: L) := .tail _ (.head _)
theorem Rem.u2 {r : Res} {x0 x1 : Res} {L : List Res} : Rem r (x0 :: x1 :: r :: L) (x0 :: x1 :: L) := .there (.there .here)
theorem Sel.u2 {r r' : Res} {x0 x1 : Res} {L : List Res} : Sel r r' (x0 :: x1 :: r :: L) (x0 :: x1 :: r' :: L) := .there (.there .here)
theorem Q2 {α : Type} {y : α} {x0 x1 : α} {L : List α} : List.Mem y (x0 :: x1 :: y :: L) := .tail _ (.tail _ (.head _))
theorem Rem.u3 {r : Res} {x0 x1 x2 : Res} {L : List Res} : Rem r (x0 :: x1 :: x2 :: r :: L) (x0 :: x1 :: x2 :: L) := .there (.there (.there .here))
theorem Sel.u3 {r r' : Res} {x0 x1 x2 : Res} {L : List Res} : Sel r r' (x0 :: x1 :: x2 :: r :: L) (x0 :: x1 :: x2 :: r' :: L) := .there (.there (.there .here))
theorem Q3 {α : Type} {y : α} {x0 x1 x2 : α} {L : List α} : List.Mem y (x0 :: x1 :: x2 :: y :: L) := .tail _ (.tail _ (.tail _ (.head _)))
theorem Rem.u4 {r : Res} {x0 x1 x2 x3 : Res} {L : List Res} : Rem r (x0 :: x1 :: x2 :: x3 :: r :: L) (x0 :: x1 :: x2 :: x3 :: L) := .there (.there (.there (.there .here)))
theorem Sel.u4 {r r' : Res} {x0 x1 x2 x3 : Res} {L : List Res} : Sel r r' (x0 :: x1 :: x2 :: x3 :: r :: L) (x0 :: x1 :: x2 :: x3 :: r' :: L) := .there (.there (.there (.there .here)))
theorem Q4 {α : Type} {y : α} {x0 x1 x2 x3 : α} {L : List α} : List.Mem y (x0 :: x1 :: x2 :: x3 :: y :: L) := .tail _ (.tail _ (.tail _ (.tail _ (.head _))))
theorem Rem.u5 {r : Res} {x0 x1 x2 x3 x4 : Res} {L : List Res} : Rem r (x0 :: x1 :: x2 :: x3 :: x4 :: r :: L) (x0 :: x1 :: x2 :: x3 :: x4 :: L) := .there (.there (.there (.there (.there .here))))
theorem Sel.u5 {r r' : Res} {x0 x1 x2 x3 x4 : Res} {L : List Res} : Sel r r' (x0 :: x1 :: x2 :: x3 :: x4 :: r :: L) (x0 :: x1 :: x2 :: x3 :: x4 :: r' :: L) := .there (.there (.there (.there (.there .here))))
theorem Q5 {α : Type} {y : α} {x0 x1 x2 x3 x4 : α} {L : List α} : List.Mem y (x0 :: x1 :: x2 :: x3 :: x4 :: y :: L) := .tail _ (.tail _ (.tail _ (.tail _ (.tail _ (.head _)))))
theorem Rem.u8 {r : Res} {x0 x1 x2 x3 x4 x5 x6 x7 : Res} {L : List Res} : Rem r (x0 :: x1 :: x2 :: x3 :: x4 :: x5 :: x6 :: x7 :: r :: L) (x0 :: x1 :: x2 :: x3 :: x4 :: x5 :: x6 :: x7 :: L) := .there (.there (.there (.there (.there (.there (.there (.there .here)))))))
theorem Sel.u8 {r r' : Res} {x0 x1 x2 x3 x4 x5 x6 x7 : Res} {L : List Res} : Sel r r' (x0 :: x1 :: x2 :: x3 :: x4 :: x5 :: x6 :: x7 :: r :: L) (x0 :: x1 :: x2 :: x3 :: x4 :: x5 :: x6 :: x7 :: r' :: L) := .there (.there (.there (.there (.there (.there (.there (.there .here)))))))
theorem Rem.u16 {r : Res} {x0 x1 x2 x3 x4 x5 x6 x7 x8 x9 x10 x11 x12 x13 x14 x15 : Res} {L : List Res} : Rem r (x0 :: x1 :: x2 :: x3 :: x4 :: x5 :: x6 :: x7 :: x8 :: x9 :: x10 :: x11 :: x12 :: x13 :: x14 :: x15 :: r :: L) (x0 :: x1 :: x2 :: x3 :: x4 :: x5 :: x6 :: x7 :: x8 :: x9 :: x10 :: x11 :: x12 :: x13 :: x14 :: x15 :: L) := .there (.there (.there (.there (.there (.there (.there (.there (.there (.there (.there (.there (.there (.there (.there (.there .here)))))))))))))))
theorem Sel.u16 {r r' : Res} {x0 x1 x2 x3 x4 x5 x6 x7 x8 x9 x10 x11 x12 x13 x14 x15 : Res} {L : List Res} : Sel r r' (x0 :: x1 :: x2 :: x3 :: x4 :: x5 :: x6 :: x7 :: x8 :: x9 :: x10 :: x11 :: x12 :: x13 :: x14 :: x15 :: r :: L) (x0 :: x1 :: x2 :: x3 :: x4 :: x5 :: x6 :: x7 :: x8 :: x9 :: x10 :: x11 :: x12 :: x13 :: x14 :: x15 :: r' :: L) := .there (.there (.there (.there (.there (.there (.there (.there (.there (.there (.there (.there (.there (.there (.there (.there .here)))))))))))))))
theorem E2 {f : Nat → Value} {t0 t1 : Nat} : Slots f [(t0, f t0), (t1, f t1)] := ⟨rfl, rfl, trivial⟩
theorem E3 {f : Nat → Value} {t0 t1 t2 : Nat} : Slots f [(t0, f t0), (t1, f t1), (t2, f t2)] := ⟨rfl, rfl, rfl, trivial⟩
theorem E4 {f : Nat → Value} {t0 t1 t2 t3 : Nat} : Slots f [(t0, f t0), (t1, f t1), (t2, f t2), (t3, f t3)] := ⟨rfl, rfl, rfl, rfl, trivial⟩
theorem E5 {f : Nat → Value} {t0 t1 t2 t3 t4 : Nat} : Slots f [(t0, f t0), (t1, f t1), (t2, f t2), (t3, f t3), (t4, f t4)] := ⟨rfl, rfl, rfl, rfl, rfl, trivial⟩
theorem E6 {f : Nat → Value} {t0 t1 t2 t3 t4 t5 : Nat} : Slots f [(t0, f t0), (t1, f t1), (t2, f t2), (t3, f t3), (t4, f t4), (t5, f t5)] := ⟨rfl, rfl, rfl, rfl, rfl, rfl, trivial⟩
theorem E7 {f : Nat → Value} {t0 t1 t2 t3 t4 t5 t6 : Nat} : Slots f [(t0, f t0), (t1, f t1), (t2, f t2), (t3, f t3), (t4, f t4), (t5, f t5), (t6, f t6)] := ⟨rfl, rfl, rfl, rfl, rfl, rfl, rfl, trivial⟩
theorem E10 {f : Nat → Value} {t0 t1 t2 t3 t4 t5 t6 t7 t8 t9 : Nat} : Slots f [(t0, f t0), (t1, f t1), (t2, f t2), (t3, f t3), (t4, f t4), (t5, f t5), (t6, f t6), (t7, f t7), (t8, f t8), (t9, f t9)] := ⟨rfl, rfl, rfl, rfl, rfl, rfl, rfl, rfl, rfl, rfl, trivial⟩
theorem E11 {f : Nat → Value} {t0 t1 t2 t3 t4 t5 t6 t7 t8 t9 t10 : Nat} : Slots f [(t0, f t0), (t1, f t1), (t2, f t2), (t3, f t3), (t4, f t4), (t5, f t5), (t6, f t6), (t7, f t7), (t8, f t8), (t9, f t9), (t10, f t10)] := ⟨rfl, rfl, rfl, rfl, rfl, rfl, rfl, rfl, rfl, rfl, rfl, trivial⟩
theorem E12 {f : Nat → Value} {t0 t1 t2 t3 t4 t5 t6 t7 t8 t9 t10 t11 : Nat} : Slots f [(t0, f t0), (t1, f t1), (t2, f t2), (t3, f t3), (t4, f t4), (t5, f t5), (t6, f t6), (t7, f t7), (t8, f t8), (t9, f t9), (t10, f t10), (t11, f t11)] := ⟨rfl, rfl, rfl, rfl, rfl, rfl, rfl, rfl, rfl, rfl, rfl, rfl, trivial⟩
theorem rg2 : List.range 2 = [0, 1] := rfl
theorem rg4 : List.range 4 = [0, 1, 2, 3] := rfl
theorem rg6 : List.range 6 = [0, 1, 2, 3, 4, 5] := rfl
theorem rg7 : List.range 7 = [0, 1, 2, 3, 4, 5, 6] := rfl
theorem rg8 : List.range 8 = [0, 1, 2, 3, 4, 5, 6, 7] := rfl
theorem rg9 : List.range 9 = [0, 1, 2, 3, 4, 5, 6, 7, 8] := rfl
theorem rg10 : List.range 10 = [0, 1, 2, 3, 4, 5, 6, 7, 8, 9] := rfl
theorem rg13 : List.range 13 = [0, 1, 2, 3, 4, 5, 6, 7, 8, 9, 10, 11, 12] := rfl
theorem rg21 : List.range 21 = [0, 1, 2, 3, 4, 5, 6, 7, 8, 9, 10, 11, 12, 13, 14, 15, 16, 17, 18, 19, 20] := rfl
theorem Fc {α β : Type} {f : α → List β} {a : α} {l : List α} : (a :: l).flatMap f = f a ++ l.flatMap f := List.flatMap_cons
theorem Fn {α β : Type} {f : α → List β} : ([] : List α).flatMap f = [] := List.flatMap_nil
theorem Mc {α β : Type} {f : α → β} {a : α} {l : List α} : (a :: l).map f = f a :: l.map f := List.map_cons
theorem Mn {α β : Type} {f : α → β} : ([] : List α).map f = [] := List.map_nil
theorem Na {α : Type} (l : List α) : [] ++ l = l := List.nil_append l
theorem An {α : Type} (l : List α) : l ++ [] = l := List.append_nil l
theorem Ca {α : Type} (a : α) (l m : List α) : a :: l ++ m = a :: (l ++ m) := List.cons_append
theorem Ex {P : Program} {ty : TypeId} {ρ : Operand → Value} {w : World} {C : Value → World → Prop} {x : Operand} {i : Nat} {vs : List Value} (v : Value) (hx : ρ x = .tuple vs.toArray) (hv : vs[i]? = some v) (hc : C v w) : Op1 P (.extract x i) ty ρ w C := zdZ hx hv hc
end Go.SK
namespace Go.SK
abbrev Tx := List UInt8
def zeE (c : UInt8) : Bool := decide (65 ≤ c.toNat ∧ c.toNat ≤ 90 ∨ 97 ≤ c.toNat ∧ c.toNat ≤ 122 ∨ c.toNat = 95)
def zc7 (c : UInt8) : Bool := decide (48 ≤ c.toNat ∧ c.toNat ≤ 57)
def zbx (c : UInt8) : Bool := decide (c.toNat = 9 ∨ c.toNat = 13 ∨ c.toNat = 32)
def zhl (c : UInt8) : Bool := zeE c || zc7 c
def zbY (s : Tx) : Tx := s.takeWhile zhl
def zdQ (c : UInt8) : Bool := decide (48 ≤ c.toNat ∧ c.toNat ≤ 57 ∨ 97 ≤ c.toNat ∧ c.toNat ≤ 102 ∨ 65 ≤ c.toNat ∧ c.toNat ≤ 70)
def zdH (c : UInt8) : Nat := if c.toNat ≤ 57 then c.toNat - 48 else if 97 ≤ c.toNat then c.toNat - 87 else c.toNat - 55
def zbV : Tx → Nat → Option Nat
  | [], n => some n
  | c :: r, n => if zc7 c = true then zbV r (10 * n + (c.toNat - 48)) else none
def zbO : Tx → Nat → Option Nat
  | [], n => some n
  | c :: r, n => if zdQ c = true then zbO r (16 * n + zdH c) else none
def zaT (s : Tx) : Option Nat := if s.length = 0 ∨ 10 < s.length ∨ (1 < s.length ∧ (s.getD 0 0).toNat = 48) then none else (zbV s 0).bind fun n => if n < 4294967296 then some n else none
def za5 (s : Tx) : Int × Int :=
  match zaT s with
  | some n => ((n : Int), 0)
  | none =>
    if 1 < s.length ∧ (s.getD 0 0).toNat = 45 then
      match zaT (s.drop 1) with
      | some n => if 1 ≤ n ∧ n ≤ 2147483648 then (4294967296 - (n : Int), 0) else (0, 62)
      | none => (0, 62)
    else if s.length < 3 ∨ 10 < s.length ∨ (s.getD 0 0).toNat ≠ 48 ∨ (s.getD 1 0).toNat ≠ 120 then (0, 62)
    else match zbO (s.drop 2) 0 with
      | some n => ((n : Int), 0)
      | none => (0, 62)
def zjF : Tx → Option (UInt8 × Nat)
  | [] => none
  | c :: r =>
    if c.toNat < 32 ∨ 126 < c.toNat ∨ c.toNat = 34 then none
    else if c.toNat ≠ 92 then some (c, 1)
    else if 0 < r.length ∧ ((r.getD 0 0).toNat = 34 ∨ (r.getD 0 0).toNat = 92) then some (r.getD 0 0, 2)
    else if 2 < r.length ∧ (r.getD 0 0).toNat = 120 ∧ zdQ (r.getD 1 0) = true ∧ zdQ (r.getD 2 0) = true then some (UInt8.ofNat (16 * zdH (r.getD 1 0) + zdH (r.getD 2 0)), 4)
    else none
def quoN : Nat → Tx → Option (Tx × Nat)
  | 0, _ => none
  | n + 1, s =>
    if s.length = 0 then none
    else if (s.getD 0 0).toNat = 34 then some ([], 1)
    else match zjF s with
      | none => none
      | some (c, k) => (quoN n (s.drop k)).map fun q => (c :: q.1, k + q.2)
structure TokL where
  kind : Int
  text : Tx
  at_ : Int
  deriving DecidableEq
def zjr (s : Tx) : Except Int (Int × Tx × Nat) :=
  let c := s.getD 0 0
  if zeE c = true then .ok (1, zbY s, (zbY s).length)
  else if c.toNat = 37 then
    let t := zbY (s.drop 1)
    if (zaT t).isSome = true then .ok (2, t, t.length + 1) else .error 62
  else if zc7 c = true ∨ c.toNat = 45 then
    let t := s.take (1 + (zbY (s.drop 1)).length)
    if (za5 t).2 = 0 then .ok (3, t, t.length) else .error 62
  else if c.toNat = 34 then
    match quoN (s.drop 1).length (s.drop 1) with
    | none => .error 61
    | some (t, n) => .ok (4, t, n + 1)
  else if c.toNat = 61 then .ok (5, [61], 1)
  else .error 60
def zfK : Nat → Tx → Nat → List TokL × (Int × Int)
  | 0, _, _ => ([], (0, 0))
  | n + 1, s, k =>
    if s.length = 0 ∨ (s.getD 0 0).toNat = 59 then ([], (0, 0))
    else if zbx (s.getD 0 0) = true then zfK n (s.drop 1) (k + 1)
    else match zjr s with
      | .error e => ([], (e, (k : Int)))
      | .ok (kd, t, m) =>
        let r := zfK n (s.drop m) (k + m)
        if r.2.1 = 0 then (⟨kd, t, (k : Int)⟩ :: r.1, (0, 0)) else ([], r.2)
def zd8 (s : Tx) : List TokL × (Int × Int) := zfK s.length s 0
def zhv (n : Nat) : UInt8 := if n < 10 then UInt8.ofNat (48 + n) else UInt8.ofNat (87 + n)
def zfu (c : UInt8) : Tx := if c.toNat < 32 ∨ 126 < c.toNat then [92, 120, zhv (c.toNat / 16), zhv (c.toNat % 16)] else if c.toNat = 34 ∨ c.toNat = 92 then [92, c] else [c]
def zcf (s : Tx) : Tx := 34 :: (s.flatMap zfu ++ [34])
def wrT (t : TokL) : Option Tx :=
  if t.kind = 1 then (if 0 < t.text.length ∧ zeE (t.text.getD 0 0) = true ∧ zbY t.text = t.text then some t.text else none)
  else if t.kind = 2 then (if (zaT t.text).isSome = true then some (37 :: t.text) else none)
  else if t.kind = 3 then (if (za5 t.text).2 = 0 then some t.text else none)
  else if t.kind = 4 then some (zcf t.text)
  else if t.kind = 5 then (if t.text = [61] then some [61] else none)
  else none
def wrR : List TokL → Option Tx
  | [] => some []
  | t :: r => (wrT t).bind fun a => (wrR r).map fun b => 32 :: (a ++ b)
def wrF : List TokL → Option Tx
  | [] => some []
  | t :: r => (wrT t).bind fun a => (wrR r).map fun b => a ++ b
end Go.SK
namespace Go.SK
def zc6 (c : UInt8) : Int := if zbx c = true then 1 else if zeE c = true then 2 else if zc7 c = true then 3 else 0
theorem zcn {c : UInt8} (h : c.toNat = 9 ∨ c.toNat = 13 ∨ c.toNat = 32) : zc6 c = 1 := by
  unfold zc6; rw [if_pos (show zbx c = true from Dt h)]
theorem zcm {c : UInt8} (h0 : ¬ (c.toNat = 9 ∨ c.toNat = 13 ∨ c.toNat = 32)) (h : 65 ≤ c.toNat ∧ c.toNat ≤ 90 ∨ 97 ≤ c.toNat ∧ c.toNat ≤ 122 ∨ c.toNat = 95) : zc6 c = 2 := by
  unfold zc6; rw [if_neg (by unfold zbx; simpa using h0), if_pos (show zeE c = true from Dt h)]
theorem zcl {c : UInt8} (h0 : 48 ≤ c.toNat ∧ c.toNat ≤ 57) : zc6 c = 3 := by
  unfold zc6; rw [if_neg (by unfold zbx; simp; omega), if_neg (by unfold zeE; simp; omega), if_pos (show zc7 c = true from Dt h0)]
theorem zco {c : UInt8} (h0 : ¬ (c.toNat = 9 ∨ c.toNat = 13 ∨ c.toNat = 32)) (h1 : ¬ (65 ≤ c.toNat ∧ c.toNat ≤ 90 ∨ 97 ≤ c.toNat ∧ c.toNat ≤ 122 ∨ c.toNat = 95)) (h2 : ¬ (48 ≤ c.toNat ∧ c.toNat ≤ 57)) : zc6 c = 0 := by
  unfold zc6; rw [if_neg (by unfold zbx; simpa using h0), if_neg (by unfold zeE; simpa using h1), if_neg (by unfold zc7; simpa using h2)]
theorem zix {c : UInt8} (h : zeE c = true) : zbx c = false := by
  unfold zeE at h; unfold zbx; simp only [decide_eq_true_eq] at h; simp; omega
theorem ziT {c : UInt8} (h : zc7 c = true) : zbx c = false := by
  unfold zc7 at h; unfold zbx; simp only [decide_eq_true_eq] at h; simp; omega
theorem znG {c : UInt8} (h : zc7 c = true) : zeE c = false := by
  unfold zc7 at h; unfold zeE; simp only [decide_eq_true_eq] at h; simp; omega
theorem zgQ (c : UInt8) : (zc6 c = 1 ∧ zbx c = true ∧ zeE c = false ∧ zc7 c = false) ∨ (zc6 c = 2 ∧ zbx c = false ∧ zeE c = true ∧ zc7 c = false) ∨ (zc6 c = 3 ∧ zbx c = false ∧ zeE c = false ∧ zc7 c = true) ∨ (zc6 c = 0 ∧ zbx c = false ∧ zeE c = false ∧ zc7 c = false) := by
  unfold zc6
  cases hl : zeE c with
  | true =>
    rw [zix hl]
    cases hd : zc7 c with
    | true => rw [znG hd] at hl; cases hl
    | false => simp
  | false =>
    cases hd : zc7 c with
    | true => rw [ziT hd]; simp
    | false => cases hb : zbx c <;> simp
theorem zkK (c : UInt8) : 2 ≤ zc6 c ↔ zhl c = true := by
  unfold zhl; rcases zgQ c with ⟨e, b, l, d⟩ | ⟨e, b, l, d⟩ | ⟨e, b, l, d⟩ | ⟨e, b, l, d⟩ <;> rw [e, l, d] <;> simp
theorem zkL (c : UInt8) : zc6 c = 2 ↔ zeE c = true := by
  rcases zgQ c with ⟨e, b, l, d⟩ | ⟨e, b, l, d⟩ | ⟨e, b, l, d⟩ | ⟨e, b, l, d⟩ <;> rw [e, l] <;> simp
theorem zl0 {s : Tx} {i : Nat} (h : i < s.length) : s.drop i = s.getD i 0 :: s.drop (i + 1) := by
  rw [List.drop_eq_getElem_cons h]; simp [List.getD, h]
theorem zeo (s : Tx) (i k : Nat) : (s.drop i).getD k 0 = s.getD (i + k) 0 := by
  simp [List.getD, List.getElem?_drop]
theorem zoJ {s : Tx} {i : Nat} (h : i < s.length) (hr : zhl (s.getD i 0) = true) : (zbY (s.drop i)).length = 1 + (zbY (s.drop (i + 1))).length := by
  unfold zbY; rw [zl0 h, List.takeWhile_cons, if_pos hr, List.length_cons]; omega
theorem zoI {s : Tx} {i : Nat} (h : i < s.length) (hr : ¬ zhl (s.getD i 0) = true) : (zbY (s.drop i)).length = 0 := by
  unfold zbY; rw [zl0 h, List.takeWhile_cons, if_neg hr]; rfl
theorem zqn {s : Tx} {i : Nat} (h : s.length ≤ i) : (zbY (s.drop i)).length = 0 := by
  rw [List.drop_eq_nil_of_le h]; rfl
theorem zic (s : Tx) {n : Nat} (h : (zbY s).length = n) : s.take n = zbY s := by
  subst h; unfold zbY
  induction s with
  | nil => rfl
  | cons c r ih => rw [List.takeWhile_cons]; split
                   · rw [List.length_cons, List.take_succ_cons, ih]
                   · rfl
theorem run_d {c : UInt8} (h : zc7 c = true) : zhl c = true := by unfold zhl; rw [h, Bool.or_true]
def zkY (s : Tx) : Prop := s.length = 0 ∨ 10 < s.length ∨ (1 < s.length ∧ (s.getD 0 0).toNat = 48)
instance (s : Tx) : Decidable (zkY s) := by unfold zkY; infer_instance
def plR (s : Tx) : Nat := if zkY s then 0 else (zbV s 0).getD 0
theorem zcG (s : Tx) : zaT s = if zkY s then none else (zbV s 0).bind fun n => if n < 4294967296 then some n else none := rfl
theorem zjE {s : Tx} (h : zkY s) : plR s = 0 ∧ (zaT s).isSome = false := by
  rw [zcG]; unfold plR; rw [if_pos h, if_pos h]; exact ⟨rfl, rfl⟩
theorem zhp {s : Tx} (h : ¬ zkY s) (hd : zbV s 0 = none) : plR s = 0 ∧ (zaT s).isSome = false := by
  rw [zcG]; unfold plR; rw [if_neg h, if_neg h, hd]; exact ⟨rfl, rfl⟩
theorem zkF {s : Tx} {n : Nat} (h : ¬ zkY s) (hd : zbV s 0 = some n) : plR s = n ∧ (zaT s).isSome = decide (n < 4294967296) := by
  rw [zcG]; unfold plR; rw [if_neg h, if_neg h, hd]
  refine ⟨rfl, ?_⟩
  show (if n < 4294967296 then some n else none).isSome = _
  split <;> rename_i h1 <;> simp [h1]
theorem zm5 {s : Tx} {n : Nat} (h : zaT s = some n) : plR s = n ∧ n < 4294967296 := by
  by_cases hb : zkY s
  · have := (zjE hb).2; rw [h] at this; cases this
  · cases hd : zbV s 0 with
    | none => have := (zhp hb hd).2; rw [h] at this; cases this
    | some m =>
      have e := zkF hb hd
      rw [h] at e; simp at e
      refine ⟨?_, ?_⟩
      · have : zaT s = some m := by rw [zcG, if_neg hb, hd]; show (if m < 4294967296 then some m else none) = _; rw [if_pos e.2]
        rw [h] at this; cases this; exact e.1
      · have : zaT s = some m := by rw [zcG, if_neg hb, hd]; show (if m < 4294967296 then some m else none) = _; rw [if_pos e.2]
        rw [h] at this; cases this; exact e.2
theorem zgY {c : UInt8} (h : zc7 c = true) : 48 ≤ c.toNat ∧ c.toNat ≤ 57 := by unfold zc7 at h; simpa using h
theorem zff {c : UInt8} (h : zdQ c = true) : (48 ≤ c.toNat ∧ c.toNat ≤ 57 ∨ 97 ≤ c.toNat ∧ c.toNat ≤ 102 ∨ 65 ≤ c.toNat ∧ c.toNat ≤ 70) ∧ zdH c ≤ 15 := by
  unfold zdQ at h; simp only [decide_eq_true_eq] at h
  refine ⟨h, ?_⟩
  unfold zdH; split
  · omega
  · split <;> omega
theorem zcL {s : Tx} {i n : Nat} (h : i < s.length) (hd : zdQ (s.getD i 0) = true) : zbO (s.drop i) n = zbO (s.drop (i + 1)) (16 * n + zdH (s.getD i 0)) := by
  rw [zl0 h, zbO, if_pos hd]
theorem zbn {s : Tx} {i n : Nat} (h : i < s.length) (hd : ¬ zdQ (s.getD i 0) = true) : zbO (s.drop i) n = none := by
  rw [zl0 h, zbO, if_neg hd]
theorem zo7 {s : Tx} {i n : Nat} (h : s.length ≤ i) : zbO (s.drop i) n = some n := by
  rw [List.drop_eq_nil_of_le h]; rfl
theorem zoR {i : Nat} (h : i ≤ 7) : 16 ^ i ≤ 268435456 := by
  have : 16 ^ i ≤ 16 ^ 7 := Nat.pow_le_pow_right Om h
  omega
theorem zbM {i n d : Nat} (h : n < 16 ^ i) (hd : d ≤ 15) : 16 * n + d < 16 ^ (i + 1) := by rw [Nat.pow_succ]; omega
theorem zdw {s : Tx} {n : Nat} (h : zaT s = some n) : za5 s = ((n : Int), 0) := by unfold za5; rw [h]
theorem zlC {s : Tx} {n : Nat} (h : zaT s = none) (h1 : 1 < s.length ∧ (s.getD 0 0).toNat = 45) (h2 : zaT (s.drop 1) = some n) (h3 : 1 ≤ n ∧ n ≤ 2147483648) : za5 s = (4294967296 - (n : Int), 0) := by
  unfold za5; rw [h]; dsimp only; rw [if_pos h1, h2]; dsimp only; rw [if_pos h3]
theorem zel {s : Tx} (h : zaT s = none) (h1 : 1 < s.length ∧ (s.getD 0 0).toNat = 45) (h2 : ∀ n, zaT (s.drop 1) = some n → ¬ (1 ≤ n ∧ n ≤ 2147483648)) : za5 s = (0, 62) := by
  unfold za5; rw [h]; dsimp only; rw [if_pos h1]
  cases h4 : zaT (s.drop 1) with
  | none => rfl
  | some n => dsimp only; rw [if_neg (h2 n h4)]
theorem zfv {s : Tx} (h : zaT s = none) (h1 : ¬ (1 < s.length ∧ (s.getD 0 0).toNat = 45)) (h2 : s.length < 3 ∨ 10 < s.length ∨ (s.getD 0 0).toNat ≠ 48 ∨ (s.getD 1 0).toNat ≠ 120) : za5 s = (0, 62) := by
  unfold za5; rw [h]; dsimp only; rw [if_neg h1, if_pos h2]
theorem zoZ {s : Tx} {n : Nat} (h : zaT s = none) (h1 : ¬ (1 < s.length ∧ (s.getD 0 0).toNat = 45)) (h2 : ¬ (s.length < 3 ∨ 10 < s.length ∨ (s.getD 0 0).toNat ≠ 48 ∨ (s.getD 1 0).toNat ≠ 120)) (h3 : zbO (s.drop 2) 0 = some n) : za5 s = ((n : Int), 0) := by
  unfold za5; rw [h]; dsimp only; rw [if_neg h1, if_neg h2, h3]
theorem zfT {s : Tx} (h : zaT s = none) (h1 : ¬ (1 < s.length ∧ (s.getD 0 0).toNat = 45)) (h2 : ¬ (s.length < 3 ∨ 10 < s.length ∨ (s.getD 0 0).toNat ≠ 48 ∨ (s.getD 1 0).toNat ≠ 120)) (h3 : zbO (s.drop 2) 0 = none) : za5 s = (0, 62) := by
  unfold za5; rw [h]; dsimp only; rw [if_neg h1, if_neg h2, h3]
theorem zf0 {α : Type} {o : Option α} (h : o.isSome = true) : ∃ a, o = some a := by cases o with
  | none => cases h
  | some a => exact ⟨a, rfl⟩
theorem ziz {α : Type} {o : Option α} (h : o.isSome = false) : o = none := by cases o with
  | none => rfl
  | some a => cases h
def zoW (s : Tx) (a : Nat) : Option (UInt8 × Nat) :=
  if (s.getD a 0).toNat < 32 ∨ 126 < (s.getD a 0).toNat ∨ (s.getD a 0).toNat = 34 then none
  else if (s.getD a 0).toNat ≠ 92 then some (s.getD a 0, 1)
  else if 0 < s.length - (a + 1) ∧ ((s.getD (a + 1) 0).toNat = 34 ∨ (s.getD (a + 1) 0).toNat = 92) then some (s.getD (a + 1) 0, 2)
  else if 2 < s.length - (a + 1) ∧ (s.getD (a + 1) 0).toNat = 120 ∧ zdQ (s.getD (a + 2) 0) = true ∧ zdQ (s.getD (a + 3) 0) = true then some (UInt8.ofNat (16 * zdH (s.getD (a + 2) 0) + zdH (s.getD (a + 3) 0)), 4)
  else none
theorem zfS {s : Tx} {a : Nat} (h : a < s.length) : zjF (s.drop a) = zoW s a := by
  rw [zl0 h, zjF]
  have e0 : (s.drop (a + 1)).getD 0 0 = s.getD (a + 1) 0 := by rw [zeo]
  have e1 : (s.drop (a + 1)).getD 1 0 = s.getD (a + 2) 0 := by rw [zeo]
  have e2 : (s.drop (a + 1)).getD 2 0 = s.getD (a + 3) 0 := by rw [zeo]
  rw [e0, e1, e2, List.length_drop]; rfl
theorem zoV {s : Tx} {a : Nat} (h : a < s.length) (h1 : ¬ ((s.getD a 0).toNat < 32 ∨ 126 < (s.getD a 0).toNat ∨ (s.getD a 0).toNat = 34)) (h2 : (s.getD a 0).toNat ≠ 92) : zjF (s.drop a) = some (s.getD a 0, 1) := by
  rw [zfS h]; unfold zoW; rw [if_neg h1, if_pos h2]
theorem zoT {s : Tx} {a : Nat} (h : a < s.length) (h2 : (s.getD a 0).toNat = 92) (h3 : a + 1 < s.length) (h4 : (s.getD (a + 1) 0).toNat = 34 ∨ (s.getD (a + 1) 0).toNat = 92) : zjF (s.drop a) = some (s.getD (a + 1) 0, 2) := by
  rw [zfS h]; unfold zoW; rw [if_neg (by omega), if_neg (by omega), if_pos ⟨by omega, h4⟩]
theorem zm7 {s : Tx} {a : Nat} (h : a < s.length) (h2 : (s.getD a 0).toNat = 92) (h3 : a + 3 < s.length) (h4 : (s.getD (a + 1) 0).toNat = 120) (h5 : zdQ (s.getD (a + 2) 0) = true) (h6 : zdQ (s.getD (a + 3) 0) = true) : zjF (s.drop a) = some (UInt8.ofNat (16 * zdH (s.getD (a + 2) 0) + zdH (s.getD (a + 3) 0)), 4) := by
  rw [zfS h]; unfold zoW; rw [if_neg (by omega), if_neg (by omega), if_neg (by omega), if_pos ⟨by omega, h4, h5, h6⟩]
theorem zm3 {i : Nat} (h : i ≤ 8) : 16 ^ i ≤ 4294967296 := by
  have : 16 ^ i ≤ 16 ^ 8 := Nat.pow_le_pow_right Om h
  omega
end Go.SK
namespace Go.SK
open Go.RowKit
theorem St.ofBelow {w w' : World} (h : Below w.heap.size w w') : St w NoM [] [] w' := (St.init w).keep (Kept.of_below h)
theorem zdC {P : Program} {g : FuncId} {args : Array Value} {w : World} {v : Value} (h : Calls P g args w fun e w' => e = .returned v ∧ w' = w) : Ret P g args w (fun u w' => u = v ∧ St w NoM [] [] w') :=
  Calls.mono h fun e w' ⟨he, hw⟩ => ⟨v, he, rfl, hw ▸ St.init w⟩
theorem zj4 {P : Program} {g : FuncId} {args : Array Value} {w : World} {v : Value} (h : Calls P g args w fun e w' => e = .returned v ∧ Below w.heap.size w w') : Ret P g args w (fun u w' => u = v ∧ St w NoM [] [] w') :=
  Calls.mono h fun e w' ⟨he, hw⟩ => ⟨v, he, rfl, St.ofBelow hw⟩
theorem zdt (s : List UInt8) : (ByteArray.mk s.toArray).size = s.length := by simp [ByteArray.size]
theorem zoF (s : List UInt8) : (ByteArray.mk s.toArray).data.toList = s := rfl
section
variable {P : Program} {ty : TypeId} {ρ : Operand → Value} {w0 w : World} {C : Value → World → Prop} {M : Nat → Prop} {L D : List Res} {T T2 e : TypeId} {x y : Operand} {sz bytes : Nat} {zs : List Value}
def ifaceB : TypeDesc → Bool
  | .interface _ => true
  | _ => false
theorem za0 {d : TypeDesc} {v : Value} (hT : TyF P T d sz bytes zs) (hd : ifaceB d = false) (hx : ρ x = v) (h : C (.iface T v) w) : Op1 P (.makeInterface T x) ty ρ w C := by
  refine zbl (v := .iface T v) (w' := w) ?_ h
  simp only [execOp, hx, Instr.makeInterface, Sem.run_bind, hT.run_und, Result.andThen]
  cases d <;> first | rfl | cases hd
theorem zkQ {m : Array (String × TypeId)} (hT : TyF P T (.interface m) sz bytes zs) : (Op.equal T .nilIface .nilIface).run P w = .ok true w := by
  show (Op.equalIn (9999 + 1) T .nilIface .nilIface).run P w = _
  rw [Op.equalIn]
  simp [Sem.run_bind, hT.run_und, Result.andThen]
theorem zkR {m : Array (String × TypeId)} {U : TypeId} {p : Value} (hT : TyF P T (.interface m) sz bytes zs) : (Op.equal T (.iface U p) .nilIface).run P w = .ok false w := by
  show (Op.equalIn (9999 + 1) T (.iface U p) .nilIface).run P w = _
  rw [Op.equalIn]
  simp [Sem.run_bind, hT.run_und, Result.andThen]
theorem zje {m : Array (String × TypeId)} (hT : TyF P T (.interface m) sz bytes zs) (hx : ρ x = .nilIface) (hy : ρ (.const .nilIface) = .nilIface) (h : C (.bool true) w) : Op1 P (.binOp .eql T x (.const .nilIface) T2) ty ρ w C := by
  refine zbl (v := .bool true) (w' := w) ?_ h
  simp only [execOp, hx, hy, eqGuard]
  simp [binOp, zkQ hT, Result.andThen]
theorem zjf {m : Array (String × TypeId)} {U : TypeId} {p : Value} (hT : TyF P T (.interface m) sz bytes zs) (hx : ρ x = .iface U p) (hy : ρ y = .nilIface) (h : C (.bool false) w) : Op1 P (.binOp .eql T x y T2) ty ρ w C := by
  refine zbl (v := .bool false) (w' := w) ?_ h
  simp only [execOp, hx, hy, eqGuard]
  simp [binOp, zkR hT, Result.andThen]
theorem zoc {m : Array (String × TypeId)} (hT : TyF P T (.interface m) sz bytes zs) (hx : ρ x = .nilIface) (hy : ρ (.const .nilIface) = .nilIface) (h : C (.bool false) w) : Op1 P (.binOp .neq T x (.const .nilIface) T2) ty ρ w C := by
  refine zbl (v := .bool false) (w' := w) ?_ h
  simp only [execOp, hx, hy, eqGuard]
  simp [binOp, zkQ hT, Result.andThen]
theorem zod {m : Array (String × TypeId)} {U : TypeId} {p : Value} (hT : TyF P T (.interface m) sz bytes zs) (hx : ρ x = .iface U p) (hy : ρ y = .nilIface) (h : C (.bool true) w) : Op1 P (.binOp .neq T x y T2) ty ρ w C := by
  refine zbl (v := .bool true) (w' := w) ?_ h
  simp only [execOp, hx, hy, eqGuard]
  simp [binOp, zkR hT, Result.andThen]
theorem zjc {S : TypeId} {s : List UInt8} {sz2 b2 es eb : Nat} {z2 ez : List Value} (hst : St w0 M L D w) (hS : TyF P S .string sz2 b2 z2) (hT : TyF P T (.slice e) sz bytes zs) (he : TyF P e (.int .u8) es eb ez) (hx : ρ x = str s)
    (h : ∀ (w' : World) (b cp : Nat), St w0 M (Res.rs (some ⟨b, 0, none⟩) s.length 1 (s.flatMap byC) :: L) D w' → C (.slice (some ⟨b, 0, none⟩) s.length cp) w') : Op1 P (.convert S T x) ty ρ w C := by
  have hr := Lib.run_convert_string_bytes (P := P) w S T e ⟨s.toArray⟩ hS.und hT.und he.und
  rw [zdt] at hr
  refine Inv.value (v := .slice (some ⟨w.heap.size, 0, none⟩) s.length (grownCap w s.length 0 e)) (w' := Lib.bytesWorld w e ⟨s.toArray⟩) ?_ (h (Lib.bytesWorld w e ⟨s.toArray⟩) w.heap.size (grownCap w s.length 0 e) (hst.push (Kept.of_below (Lib.bytesWorld_below _ _ _)) ?_ ?_))
  · simp only [execOp, hx, Sem.run_bind, str]
    rw [hr]; rfl
  · refine ⟨by rw [zb4 (es := 1) (fun _ => rfl)], .inr ⟨_, 0, rfl, fun i v hi => ?_⟩⟩
    rw [zdA] at hi
    have hi2 := (List.getElem?_eq_some_iff.1 hi)
    obtain ⟨h1, h2⟩ := hi2
    rw [List.length_map] at h1
    have := Lib.bytesWorld_cell w e ⟨s.toArray⟩ i (by rw [zdt]; exact h1)
    rw [Nat.zero_add, this, ← h2, zoF]; simp [List.getD, h1]
  · intro b ⟨_, o, ho⟩
    cases ho; exact Nat.le_refl _
end
theorem zjD {α : Type} [Inhabited α] (enc : α → Value) (w : World) (b off : Nat) (d : Array α) (n : Nat) {cs : Array Value} {T : TypeId} {fz : Nat × Nat} (h : w.heap[b]? = some (.cells cs T fz)) :
    Kept (· = b) w ((Sort.putRow enc w b off d).drewN n) ∧ ((Sort.putRow enc w b off d).drewN n).heap[b]? = some (.cells (Sort.putCells enc off d cs) T fz) := by
  refine ⟨⟨rfl, rfl, rfl, ?_, ?_⟩, ?_⟩
  · simp [Sort.putRow, Sort.mapBlock, World.drewN]
  · intro c hc hne
    simp [Sort.putRow, Sort.mapBlock, World.drewN, Array.getElem?_modify, show b ≠ c from fun e => hne e.symm]
  · simp [Sort.putRow, Sort.mapBlock, World.drewN, Array.getElem?_modify, h, Sort.onCells]
end Go.SK
namespace Go.SK
def puO (s : Tx) : Option Nat := match Lib.parseUintB 32 s with
  | .ok u => some u
  | _ => none
def puV (s : Tx) : Nat := match Lib.parseUintB 32 s with
  | .ok u => u
  | .range => 4294967295
  | _ => 0
theorem zpX (s : Tx) : puV s ≤ 4294967295 := by
  unfold puV
  cases h : Lib.parseUintB 32 s
  · exact Lib.parseUintB_le h
  · exact Nat.zero_le _
  · exact Nat.le_refl _
theorem ziS : ∀ (s : Tx) (a n : Nat), zbV s a = some n → a ≤ n
  | [], a, n, h => by cases h; exact Nat.le_refl _
  | c :: r, a, n, h => by
    rw [zbV] at h; split at h
    · have := ziS r _ n h; omega
    · cases h
theorem zgX : ∀ (s : Tx) (a n : Nat), zbV s a = some n → n ≤ 4294967295 → Lib.parseUintM 4294967295 a s = .ok n
  | [], a, n, h, _ => by cases h; rfl
  | c :: r, a, n, h, hn => by
    rw [zbV] at h; split at h
    · rename_i hd
      have hb := zgY hd
      have hm := ziS r _ n h
      rw [Lib.parseUintM, if_pos hb, if_neg (by omega), if_neg (by omega), Nat.mul_comm a 10]
      exact zgX r _ n h hn
    · cases h
theorem zhE (c : UInt8) : ∀ (s : Tx) (a : Nat), zbV (s ++ [c]) a = (zbV s a).bind fun m => if zc7 c = true then some (10 * m + (c.toNat - 48)) else none
  | [], a => by simp [zbV]
  | d :: r, a => by
    rw [List.cons_append, zbV, zbV]
    split
    · exact zhE c r _
    · rfl
theorem zpj (u : Nat) : zbV (Lib.decDigits u) 0 = some u := by
  induction u using Nat.strongRecOn with
  | _ u ih =>
    rw [Lib.decDigits]; split
    · rename_i h
      have h1 : (UInt8.ofNat (48 + u)).toNat = 48 + u := by rw [UInt8.toNat_ofNat']; omega
      rw [zbV, if_pos (show zc7 _ = true from Dt (by omega)), zbV, h1]; congr 1; omega
    · rename_i h
      have h1 : (UInt8.ofNat (48 + u % 10)).toNat = 48 + u % 10 := by rw [UInt8.toNat_ofNat']; omega
      rw [zhE, ih (u / 10) (by omega), Option.bind_some, if_pos (show zc7 _ = true from Dt (by omega)), h1]; congr 1; omega
theorem ziC {a b : Tx} (h : 0 < a.length) : (a ++ b).getD 0 0 = a.getD 0 0 := by
  cases a with
  | nil => exact absurd h (Nat.lt_irrefl _)
  | cons c r => rfl
theorem zoG {p : Tx → Prop} (h0 : p []) (h1 : ∀ r c, p r → p (r ++ [c])) (s : Tx) : p s := by
  have : ∀ l : Tx, p l.reverse := fun l => by
    induction l with
    | nil => exact h0
    | cons c r ih => rw [List.reverse_cons]; exact h1 _ _ ih
  have h := this s.reverse
  rwa [List.reverse_reverse] at h
theorem zhF (u : Nat) : (Lib.decDigits u).length = Lib.nDigits u := by rw [Lib.decDigits_eq]; simp
theorem zpl {u : Nat} : 0 < (Lib.decDigits u).length ∧ (((Lib.decDigits u).getD 0 0).toNat = 48 → u = 0) := by
  induction u using Nat.strongRecOn with
  | _ u ih =>
    rw [Lib.decDigits]; split
    · rename_i h
      have h1 : (UInt8.ofNat (48 + u)).toNat = 48 + u := by rw [UInt8.toNat_ofNat']; omega
      refine ⟨Nat.one_pos, fun h2 => ?_⟩
      have : ((([UInt8.ofNat (48 + u)] : List UInt8).getD 0 0)).toNat = 48 + u := h1
      omega
    · rename_i h
      obtain ⟨h1, h2⟩ := ih (u / 10) Om
      refine ⟨by rw [List.length_append]; omega, fun h3 => ?_⟩
      rw [ziC h1] at h3
      have := h2 h3; omega
theorem zdx {u k : Nat} (h : u < 10 ^ (k + 1)) : Lib.nDigits u ≤ k + 1 := by
  induction k generalizing u with
  | zero => rw [Lib.nDigits_small (by simpa using h)]; exact Nat.le_refl _
  | succ k ih =>
    by_cases h10 : u < 10
    · rw [Lib.nDigits_small h10]; omega
    · rw [Lib.nDigits_big h10]
      have := ih (u := u / 10) (by rw [Nat.pow_succ] at h; omega)
      omega
theorem dec_of (s : Tx) : ∀ n, 0 < s.length → (1 < s.length → (s.getD 0 0).toNat ≠ 48) → zbV s 0 = some n → Lib.decDigits n = s ∧ ((s.getD 0 0).toNat ≠ 48 → 1 ≤ n) := by
  refine zoG (p := fun s => ∀ n, 0 < s.length → (1 < s.length → (s.getD 0 0).toNat ≠ 48) → zbV s 0 = some n → Lib.decDigits n = s ∧ ((s.getD 0 0).toNat ≠ 48 → 1 ≤ n)) ?_ ?_ s
  · intro n h; exact absurd h (Nat.lt_irrefl _)
  · intro r c ih n _ hz hd
    rw [zhE] at hd
    cases hr : zbV r 0 with
    | none => rw [hr] at hd; cases hd
    | some m =>
      rw [hr, Option.bind_some] at hd
      split at hd
      · rename_i hc
        have hb := zgY hc
        cases hd
        rcases Nat.eq_zero_or_pos r.length with h0 | h0
        · obtain rfl := List.length_eq_zero_iff.1 h0
          cases hr
          refine ⟨?_, fun h => ?_⟩
          · rw [Lib.decDigits, dif_pos (by omega), List.nil_append]
            congr 1
            apply UInt8.toNat_inj.1; rw [UInt8.toNat_ofNat']; omega
          · have : (([] ++ [c] : List UInt8).getD 0 0).toNat = c.toNat := rfl
            omega
        · have e0 : (r ++ [c]).getD 0 0 = r.getD 0 0 := ziC h0
          have hz2 := hz (by rw [List.length_append]; simp; omega)
          rw [e0] at hz2
          obtain ⟨h1, h2⟩ := ih m h0 (fun _ => hz2) hr
          have h3 := h2 hz2
          refine ⟨?_, fun _ => by omega⟩
          rw [Lib.decDigits, dif_neg (by omega), show (10 * m + (c.toNat - 48)) / 10 = m by omega, h1]
          congr 2
          apply UInt8.toNat_inj.1; rw [UInt8.toNat_ofNat']; omega
      · cases hd
theorem zej {s : Tx} {n : Nat} (h : zaT s = some n) : Lib.decDigits n = s ∧ puV s = n ∧ (puO s).isSome = true := by
  have hn := zm5 h
  by_cases hb : zkY s
  · have := (zjE hb).2; rw [h] at this; cases this
  · cases hd : zbV s 0 with
    | none => have := (zhp hb hd).2; rw [h] at this; cases this
    | some m =>
      have e := zkF hb hd
      have hm : m = n := e.1.symm.trans hn.1
      subst hm
      unfold zkY at hb
      refine ⟨(dec_of s m Om Om hd).1, ?_⟩
      have hp : Lib.parseUintB 32 s = .ok m := by
        unfold Lib.parseUintB
        rw [if_neg (fun e => hb (.inl (by rw [e]; rfl)))]
        exact zgX s 0 m hd Om
      unfold puV puO; rw [hp]; exact ⟨rfl, rfl⟩
theorem zcN {u : Nat} (h : u < 4294967296) : zaT (Lib.decDigits u) = some u := by
  have hl : ¬ zkY (Lib.decDigits u) := by
    unfold zkY
    have h1 := zpl (u := u)
    have h2 := zhF u
    have h3 := zdx (u := u) (k := 9) Om
    intro hq
    rcases hq with hq | hq | ⟨hq, hz⟩
    · omega
    · omega
    · have := h1.2 hz; subst this
      rw [h2, Lib.nDigits_small (by omega)] at hq; omega
  rw [zcG, if_neg hl, zpj, Option.bind_some, if_pos h]
theorem zm4 {s : Tx} (h : (puO s).isSome = true) : (zaT s).isSome = decide (Lib.decDigits (puV s) = s) := by
  by_cases e : Lib.decDigits (puV s) = s
  · rw [Dt e]
    have := zcN (u := puV s) (by have := zpX s; omega)
    rw [e] at this; rw [this]; rfl
  · rw [Df e]
    cases hp : zaT s with
    | none => rfl
    | some n =>
      obtain ⟨h1, h2, _⟩ := zej hp
      rw [h2] at e; exact absurd h1 e
theorem zoS {s : Tx} (h : (puO s).isSome = false) : (zaT s).isSome = false := by
  cases hp : zaT s with
  | none => rfl
  | some n => rw [(zej hp).2.2] at h; cases h
end Go.SK
namespace Go.SK
open Go.RowKit
section
variable {P : Program} {ty : TypeId} {ρ : Operand → Value} {w : World} {C : Value → World → Prop} {T e : TypeId} {sz bytes es eb : Nat} {zs ez : List Value} {de : TypeDesc}
theorem zdK {x y : Operand} {b off k hi : Nat} {kk : IntKind} {a : Int} (hT : TyF P T (.array k e) sz bytes zs) (he : TyF P e de es eb ez) (hx : ρ x = .pointer (some ⟨b, off, none⟩)) (hy : ρ y = .int kk a) (ha : a = hi) (h1 : hi ≤ k)
    (h : C (.slice (some ⟨b, off, none⟩) hi k) w) : Op1 P (.slice T x none (some y) none) ty ρ w C := by
  subst ha
  refine zbl (v := .slice (some ⟨b, off, none⟩) hi k) (w' := w) ?_ h
  simp [execOp, Instr.sliceAt, Instr.slice, Instr.sliceBounds, Instr.sliceBound, asIntOf, hx, hy, Sem.run_bind, hT.run_und, he.run_size, Result.andThen, h1, zbS, Instr.sureAddr]
end
theorem zqB : ∀ n < 256, 0 ≤ bits .or .u8 ((n : Nat) : Int) 32 ∧ bits .or .u8 ((n : Nat) : Int) 32 ≤ 255 ∧ (97 ≤ n ∧ n ≤ 102 → bits .or .u8 ((n : Nat) : Int) 32 = n) ∧ (65 ≤ n ∧ n ≤ 70 → bits .or .u8 ((n : Nat) : Int) 32 = n + 32) ∧ (¬ (48 ≤ n ∧ n ≤ 57) → ¬ (97 ≤ n ∧ n ≤ 102 ∨ 65 ≤ n ∧ n ≤ 70) → ¬ (97 ≤ bits .or .u8 ((n : Nat) : Int) 32 ∧ bits .or .u8 ((n : Nat) : Int) 32 ≤ 102)) := by decide +kernel
theorem zqE {u k : Nat} {d : Array UInt8} {v' : Nat} (h : Lib.FmtInv k u 0 v' d) (hk : k = Lib.nDigits u) (xs : List Value) (hx : k ≤ xs.length) :
    (Sort.putCells (fun (b : UInt8) => Value.int .u8 (b.toNat : Int)) 0 d xs.toArray).toList.take k = (Lib.decDigits u).flatMap byC := by
  have hs := h.size
  apply List.ext_getElem?
  intro j
  rw [zdA, Lib.decDigits_eq, ← hk]
  by_cases hj : j < k
  · rw [List.getElem?_take_of_lt hj]
    have hd := h.done j (Nat.zero_le _) hj
    rw [getElem!_pos d j (by omega)] at hd
    simp [Sort.putCells, hj, hs, show j < xs.length by omega, hd]
  · rw [List.getElem?_eq_none (by simp; omega), List.getElem?_eq_none (by simp; omega)]
end Go.SK
namespace Go.SK
theorem take1 {s : Tx} {c : UInt8} (h : s.take 1 = [c]) : 0 < s.length ∧ (s.getD 0 0).toNat = c.toNat := by
  cases s with
  | nil => cases h
  | cons a r => cases h; exact ⟨Nat.succ_pos _, rfl⟩
theorem zoE {s : Tx} {c : UInt8} (h : s.take 1 ≠ [c]) : s.length = 0 ∨ (s.getD 0 0).toNat ≠ c.toNat := by
  cases s with
  | nil => exact .inl rfl
  | cons a r => exact .inr fun e => h (by rw [List.take_succ_cons, List.take_zero]; exact congrArg (fun x => [x]) (UInt8.toNat_inj.1 e))
theorem zoD {s : Tx} {c d : UInt8} (h : s.take 2 = [c, d]) : 2 ≤ s.length ∧ (s.getD 0 0).toNat = c.toNat ∧ (s.getD 1 0).toNat = d.toNat := by
  match s, h with
  | a :: b :: r, h => cases h; exact ⟨by simp, rfl, rfl⟩
theorem zfq {s : Tx} {c d : UInt8} (h : s.take 2 ≠ [c, d]) : s.length < 2 ∨ (s.getD 0 0).toNat ≠ c.toNat ∨ (s.getD 1 0).toNat ≠ d.toNat := by
  match s, h with
  | [], h => exact .inl (by simp)
  | [a], h => exact .inl (by simp)
  | a :: b :: r, h =>
    by_cases e : a = c
    · by_cases e2 : b = d
      · exact absurd (by rw [e, e2]; rfl) h
      · exact .inr (.inr fun e3 => e2 (UInt8.toNat_inj.1 e3))
    · exact .inr (.inl fun e3 => e (UInt8.toNat_inj.1 e3))
theorem zku {s p : Tx} (h : Lib.hasPrefix s p = true) : Lib.trimPrefix s p = s.drop p.length ∧ s.take p.length = p := by
  refine ⟨by unfold Lib.trimPrefix; rw [if_pos h], ?_⟩
  unfold Lib.hasPrefix at h
  obtain ⟨t, rfl⟩ := List.isPrefixOf_iff_prefix.1 h
  simp
theorem zmH {s p : Tx} (h : Lib.hasPrefix s p = false) : Lib.trimPrefix s p = s ∧ s.take p.length ≠ p := by
  refine ⟨by unfold Lib.trimPrefix; rw [h]; rfl, fun e => ?_⟩
  unfold Lib.hasPrefix at h
  have hq : p ++ s.drop p.length = s := by
    have h2 := List.take_append_drop p.length s
    rw [e] at h2; exact h2
  have : p.isPrefixOf s = true := List.isPrefixOf_iff_prefix.2 ⟨s.drop p.length, hq⟩
  rw [h] at this; cases this
theorem zcv {s : Tx} (h : zaT s = none) (h1 : 0 < s.length ∧ (s.getD 0 0).toNat = 45) (h2 : ∀ n, zaT (s.drop 1) = some n → ¬ (1 ≤ n ∧ n ≤ 2147483648)) : za5 s = (0, 62) := by
  by_cases hl : 1 < s.length
  · exact zel h ⟨hl, h1.2⟩ h2
  · exact zfv h (fun q => hl q.1) (.inl Om)
theorem zjI {s : Tx} {n : Nat} (h : zaT s = none) (h1 : 0 < s.length ∧ (s.getD 0 0).toNat = 45) (h2 : zaT (s.drop 1) = some n) (h3 : 1 ≤ n ∧ n ≤ 2147483648) : za5 s = (4294967296 - (n : Int), 0) := by
  refine zlC h ⟨?_, h1.2⟩ h2 h3
  by_cases hl : 1 < s.length
  · exact hl
  · rw [List.drop_eq_nil_of_le (by omega)] at h2; cases h2
theorem zdf {s : Tx} (h : zaT s = none) (h1 : 2 ≤ s.length ∧ (s.getD 0 0).toNat = 48 ∧ (s.getD 1 0).toNat = 120) (h2 : 10 < s.length ∨ s.length = 2 ∨ zbO (s.drop 2) 0 = none) : za5 s = (0, 62) := by
  by_cases hb : s.length < 3 ∨ 10 < s.length ∨ (s.getD 0 0).toNat ≠ 48 ∨ (s.getD 1 0).toNat ≠ 120
  · exact zfv h Om hb
  · refine zfT h Om hb ?_
    rcases h2 with h2 | h2 | h2
    · omega
    · omega
    · exact h2
theorem zfz : ∀ (s : Tx) (a n : Nat), zbO s a = some n → zbY s = s ∧ Lib.indexByte s 95 = -1
  | [], a, n, _ => ⟨rfl, rfl⟩
  | c :: r, a, n, h => by
    rw [zbO] at h; split at h
    · rename_i hc
      obtain ⟨h1, h2⟩ := zfz r _ n h
      have hb := (zff hc).1
      have hr : zhl c = true := by
        unfold zhl zeE zc7
        rw [Bool.or_eq_true, decide_eq_true_eq, decide_eq_true_eq]; omega
      refine ⟨?_, ?_⟩
      · unfold zbY at h1 ⊢; rw [List.takeWhile_cons, if_pos hr, h1]
      · unfold Lib.indexByte
        have hne : (c == 95) = false := by
          rw [beq_eq_false_iff_ne]; intro e; subst e
          have : (95 : UInt8).toNat = 95 := rfl
          omega
        rw [hne, h2]; rfl
    · cases h
theorem zo0 {m : Nat} (h : 1 ≤ m ∧ m ≤ 2147483648) : IntKind.u32.wrap (0 - (m : Int)) = 4294967296 - (m : Int) := by
  simp [IntKind.wrap, IntKind.signed, IntKind.bits]; omega
theorem zno : ∀ (s : Tx) (a n k : Nat), zbO s a = some n → a < 16 ^ k → n < 16 ^ (k + s.length)
  | [], a, n, k, h, ha => by cases h; exact ha
  | c :: r, a, n, k, h, ha => by
    rw [zbO] at h; split at h
    · rename_i hc
      have := zno r _ n (k + 1) h (zbM ha (zff hc).2)
      rw [List.length_cons, show k + (r.length + 1) = k + 1 + r.length by omega]; exact this
    · cases h
theorem znp {s : Tx} {n : Nat} (h : zbO s 0 = some n) (hl : s.length ≤ 8) : n ≤ 4294967295 := by
  have h1 := zno s 0 n 0 h De
  have h2 := zm3 (i := 0 + s.length) Om
  omega
end Go.SK
namespace Go.SK
open Go Go.Proofs Go.Shelf
def zdJ : Go.Shelf.Ren := ⟨fun | 156 => 55 | 165 => 74 | 166 => 37 | 169 => 21 | 240 => 56 | 241 => 96 | 276 => 75 | 277 => 117 | n => n, fun | 31 => 119 | 9 => 9 | 3 => 3 | 4 => 4 | 0 => 0 | 20 => 20 | 72 => 58 | 76 => 93 | 70 => 55 | 37 => 56 | 75 => 92 | 127 => 104 | 164 => 146 | 5 => 5 | 80 => 69 | n => n, fun | n => n⟩
theorem zgN : Go.Proofs.Lays.n156 Tryd.prog zdJ := {
 mixed := by kernel_rfl
 f156 := Tryd.func55.trans (congrArg some Kr)
 f165 := Tryd.func74.trans (congrArg some Kr)
 f166 := Tryd.func37.trans (congrArg some Kr)
 f169 := Tryd.func21.trans (congrArg some Kr)
 f240 := Tryd.func56.trans (congrArg some Kr)
 f241 := Tryd.func96.trans (congrArg some Kr)
 f276 := Tryd.func75.trans (congrArg some Kr)
 f277 := Tryd.func117.trans (congrArg some Kr)
 t0 := Tryd.underlying0
 a0 := Tryd.isAgg0
 z0 := Tryd.sizeOf0
 v0 := Tryd.zeroValue0
 t3 := Tryd.underlying3
 a3 := Tryd.isAgg3
 z3 := Tryd.sizeOf3
 v3 := Tryd.zeroValue3
 t4 := Tryd.underlying4
 a4 := Tryd.isAgg4
 z4 := Tryd.sizeOf4
 v4 := Tryd.zeroValue4
 t9 := Tryd.underlying9
 a9 := Tryd.isAgg9
 z9 := Tryd.sizeOf9
 v9 := Tryd.zeroValue9
 t20 := Tryd.underlying20
 a20 := Tryd.isAgg20
 z20 := Tryd.sizeOf20
 v20 := Tryd.zeroValue20
 t31 := Tryd.underlying119
 a31 := Tryd.isAgg119
 z31 := Tryd.sizeOf119
 v31 := Tryd.zeroValue119
 t37 := Tryd.underlying56
 a37 := Tryd.isAgg56
 z37 := Tryd.sizeOf56
 v37 := Tryd.zeroValue56
 t70 := Tryd.underlying55
 a70 := Tryd.isAgg55
 z70 := Tryd.sizeOf55
 v70 := Tryd.zeroValue55
 t72 := Tryd.underlying58
 a72 := Tryd.isAgg58
 z72 := Tryd.sizeOf58
 v72 := Tryd.zeroValue58
 t75 := Tryd.underlying92
 a75 := Tryd.isAgg92
 z75 := Tryd.sizeOf92
 v75 := Tryd.zeroValue92
 t76 := Tryd.underlying93
 a76 := Tryd.isAgg93
 z76 := Tryd.sizeOf93
 v76 := Tryd.zeroValue93
 t127 := Tryd.underlying104
 a127 := Tryd.isAgg104
 z127 := Tryd.sizeOf104
 v127 := Tryd.zeroValue104
 t164 := Tryd.underlying146
 a164 := Tryd.isAgg146
 z164 := Tryd.sizeOf146
 v164 := Tryd.zeroValue146 }
theorem zfY : Builder.Extra Tryd.prog zdJ := {
 sizeBuilder := by kernel_rfl
 liesBuilder := by kernel_rfl
 t5 := Tryd.underlying5
 a5 := Tryd.isAgg5
 z5 := Tryd.sizeOf5
 v5 := Tryd.zeroValue5
 infoByte := by kernel_rfl
 cellsByte := by kernel_rfl
 sizeByte := by kernel_rfl
 neB5 := by decide }
def zgr : Go.Shelf.Ren := ⟨fun | 137 => 68 | 217 => 89 | 266 => 114 | n => n, fun | 9 => 9 | 5 => 5 | 3 => 3 | n => n, fun | n => n⟩
theorem zlI : Go.Proofs.Lays.n137 Tryd.prog zgr := {
 mixed := by kernel_rfl
 f137 := Tryd.func68.trans (congrArg some Kr)
 f217 := Tryd.func89.trans (congrArg some Kr)
 f266 := Tryd.func114.trans (congrArg some Kr)
 t3 := Tryd.underlying3
 a3 := Tryd.isAgg3
 z3 := Tryd.sizeOf3
 v3 := Tryd.zeroValue3
 t5 := Tryd.underlying5
 a5 := Tryd.isAgg5
 z5 := Tryd.sizeOf5
 v5 := Tryd.zeroValue5
 t9 := Tryd.underlying9
 a9 := Tryd.isAgg9
 z9 := Tryd.sizeOf9
 v9 := Tryd.zeroValue9 }
def zgs : Go.Shelf.Ren := ⟨fun | 103 => 66 | 210 => 86 | 206 => 107 | n => n, fun | 9 => 9 | 4 => 4 | 24 => 120 | 3 => 3 | n => n, fun | n => n⟩
theorem zlJ : Go.Proofs.Lays.n103 Tryd.prog zgs := {
 mixed := by kernel_rfl
 f103 := Tryd.func66.trans (congrArg some Kr)
 f206 := Tryd.func107.trans (congrArg some Kr)
 f210 := Tryd.func86.trans (congrArg some Kr)
 t3 := Tryd.underlying3
 a3 := Tryd.isAgg3
 z3 := Tryd.sizeOf3
 v3 := Tryd.zeroValue3
 t4 := Tryd.underlying4
 a4 := Tryd.isAgg4
 z4 := Tryd.sizeOf4
 v4 := Tryd.zeroValue4
 t9 := Tryd.underlying9
 a9 := Tryd.isAgg9
 z9 := Tryd.sizeOf9
 v9 := Tryd.zeroValue9
 t24 := Tryd.underlying120
 a24 := Tryd.isAgg120
 z24 := Tryd.sizeOf120
 v24 := Tryd.zeroValue120 }
def zgq : Go.Shelf.Ren := ⟨fun | 283 => 76 | n => n, fun | 3 => 3 | 9 => 9 | 4 => 4 | n => n, fun | n => n⟩
theorem zlH : Go.Proofs.Lays.n283 Tryd.prog zgq := {
 mixed := by kernel_rfl
 f283 := Tryd.func76.trans (congrArg some Kr)
 t3 := Tryd.underlying3
 a3 := Tryd.isAgg3
 z3 := Tryd.sizeOf3
 v3 := Tryd.zeroValue3
 t4 := Tryd.underlying4
 a4 := Tryd.isAgg4
 z4 := Tryd.sizeOf4
 v4 := Tryd.zeroValue4
 t9 := Tryd.underlying9
 a9 := Tryd.isAgg9
 z9 := Tryd.sizeOf9
 v9 := Tryd.zeroValue9 }
def zfW : Go.Shelf.Ren := ⟨fun | 284 => 77 | 129 => 98 | 317 => 97 | 318 => 99 | n => n, fun | 53 => 76 | 3 => 3 | 212 => 172 | 0 => 0 | 4 => 4 | 46 => 169 | 5 => 5 | 9 => 9 | n => n, fun | 17 => 0 | n => n⟩
theorem zjK : Go.Proofs.LaysM.n284 Tryd.prog zfW := {
 mixed := by kernel_rfl
 f129 := Tryd.func98.trans (congrArg some Kr)
 f284 := Tryd.func77.trans (congrArg some Kr)
 f317 := Tryd.func97.trans (congrArg some Kr)
 f318 := Tryd.func99.trans (congrArg some Kr)
 t0 := Tryd.underlying0
 a0 := Tryd.isAgg0
 z0 := Tryd.sizeOf0
 v0 := Tryd.zeroValue0
 t3 := Tryd.underlying3
 a3 := Tryd.isAgg3
 z3 := Tryd.sizeOf3
 v3 := Tryd.zeroValue3
 t4 := Tryd.underlying4
 a4 := Tryd.isAgg4
 z4 := Tryd.sizeOf4
 v4 := Tryd.zeroValue4
 t5 := Tryd.underlying5
 a5 := Tryd.isAgg5
 z5 := Tryd.sizeOf5
 v5 := Tryd.zeroValue5
 t9 := Tryd.underlying9
 a9 := Tryd.isAgg9
 z9 := Tryd.sizeOf9
 v9 := Tryd.zeroValue9
 t46 := Tryd.underlying169
 a46 := Tryd.isAgg169
 z46 := Tryd.sizeOf169
 v46 := Tryd.zeroValue169
 t53 := Tryd.underlying76
 a53 := Tryd.isAgg76
 z53 := Tryd.sizeOf76
 v53 := Tryd.zeroValue76
 t212 := Tryd.underlying172
 a212 := Tryd.isAgg172
 z212 := Tryd.sizeOf172
 v212 := Tryd.zeroValue172
 g17 := by kernel_rfl
 i0 := by kernel_rfl
 i3 := by kernel_rfl
 i4 := by kernel_rfl
 i5 := by kernel_rfl
 i9 := by kernel_rfl
 i46 := by kernel_rfl
 i53 := by kernel_rfl
 i212 := by kernel_rfl
 m17 := by kernel_rfl }
def zgp : Go.Shelf.Ren := ⟨fun | 285 => 78 | n => n, fun | 37 => 56 | 53 => 76 | 3 => 3 | 4 => 4 | 51 => 22 | 9 => 9 | 5 => 5 | 0 => 0 | n => n, fun | n => n⟩
theorem zlG : Go.Proofs.Lays.n285 Tryd.prog zgp := {
 mixed := by kernel_rfl
 f285 := Tryd.func78.trans (congrArg some Kr)
 t0 := Tryd.underlying0
 a0 := Tryd.isAgg0
 z0 := Tryd.sizeOf0
 v0 := Tryd.zeroValue0
 t3 := Tryd.underlying3
 a3 := Tryd.isAgg3
 z3 := Tryd.sizeOf3
 v3 := Tryd.zeroValue3
 t4 := Tryd.underlying4
 a4 := Tryd.isAgg4
 z4 := Tryd.sizeOf4
 v4 := Tryd.zeroValue4
 t5 := Tryd.underlying5
 a5 := Tryd.isAgg5
 z5 := Tryd.sizeOf5
 v5 := Tryd.zeroValue5
 t9 := Tryd.underlying9
 a9 := Tryd.isAgg9
 z9 := Tryd.sizeOf9
 v9 := Tryd.zeroValue9
 t37 := Tryd.underlying56
 a37 := Tryd.isAgg56
 z37 := Tryd.sizeOf56
 v37 := Tryd.zeroValue56
 t51 := Tryd.underlying22
 a51 := Tryd.isAgg22
 z51 := Tryd.sizeOf22
 v51 := Tryd.zeroValue22
 t53 := Tryd.underlying76
 a53 := Tryd.isAgg76
 z53 := Tryd.sizeOf76
 v53 := Tryd.zeroValue76 }
def zfX : Go.Shelf.Ren := ⟨fun | 245 => 88 | 279 => 110 | 280 => 111 | 281 => 112 | 282 => 113 | 316 => 120 | 171 => 122 | 205 => 121 | 243 => 123 | 246 => 124 | 283 => 76 | 284 => 77 | 285 => 78 | 286 => 79 | 129 => 98 | 317 => 97 | 318 => 99 | 319 => 100 | 320 => 101 | 337 => 118 | 338 => 119 | n => n, fun | 9 => 9 | 3 => 3 | 75 => 92 | 167 => 181 | 4 => 4 | 168 => 182 | 210 => 191 | 37 => 56 | 0 => 0 | 127 => 104 | 145 => 197 | 143 => 195 | 2 => 2 | 171 => 149 | 53 => 76 | 5 => 5 | 173 => 152 | 212 => 172 | 51 => 22 | 20 => 20 | 213 => 173 | 46 => 169 | 232 => 193 | 233 => 194 | 80 => 69 | n => n, fun | 15 => 1 | 16 => 2 | 17 => 0 | 18 => 4 | 19 => 5 | n => n⟩
theorem zjL : Go.Proofs.LaysC.n245 Tryd.prog zfX := {
 mixed := by kernel_rfl
 f129 := Tryd.func98.trans (congrArg some Kr)
 f171 := Tryd.func122.trans (congrArg some Kr)
 f205 := Tryd.func121.trans (congrArg some Kr)
 f243 := Tryd.func123.trans (congrArg some Kr)
 f245 := Tryd.func88.trans (congrArg some Kr)
 f246 := Tryd.func124.trans (congrArg some Kr)
 f279 := Tryd.func110.trans (congrArg some Kr)
 f280 := Tryd.func111.trans (congrArg some Kr)
 f281 := Tryd.func112.trans (congrArg some Kr)
 f282 := Tryd.func113.trans (congrArg some Kr)
 f283 := Tryd.func76.trans (congrArg some Kr)
 f284 := Tryd.func77.trans (congrArg some Kr)
 f285 := Tryd.func78.trans (congrArg some Kr)
 f286 := Tryd.func79.trans (congrArg some Kr)
 f316 := Tryd.func120.trans (congrArg some Kr)
 f317 := Tryd.func97.trans (congrArg some Kr)
 f318 := Tryd.func99.trans (congrArg some Kr)
 f319 := Tryd.func100.trans (congrArg some Kr)
 f320 := Tryd.func101.trans (congrArg some Kr)
 f337 := Tryd.func118.trans (congrArg some Kr)
 f338 := Tryd.func119.trans (congrArg some Kr)
 t0 := Tryd.underlying0
 a0 := Tryd.isAgg0
 z0 := Tryd.sizeOf0
 v0 := Tryd.zeroValue0
 t2 := Tryd.underlying2
 a2 := Tryd.isAgg2
 z2 := Tryd.sizeOf2
 v2 := Tryd.zeroValue2
 t3 := Tryd.underlying3
 a3 := Tryd.isAgg3
 z3 := Tryd.sizeOf3
 v3 := Tryd.zeroValue3
 t4 := Tryd.underlying4
 a4 := Tryd.isAgg4
 z4 := Tryd.sizeOf4
 v4 := Tryd.zeroValue4
 t5 := Tryd.underlying5
 a5 := Tryd.isAgg5
 z5 := Tryd.sizeOf5
 v5 := Tryd.zeroValue5
 t9 := Tryd.underlying9
 a9 := Tryd.isAgg9
 z9 := Tryd.sizeOf9
 v9 := Tryd.zeroValue9
 t20 := Tryd.underlying20
 a20 := Tryd.isAgg20
 z20 := Tryd.sizeOf20
 v20 := Tryd.zeroValue20
 t37 := Tryd.underlying56
 a37 := Tryd.isAgg56
 z37 := Tryd.sizeOf56
 v37 := Tryd.zeroValue56
 t46 := Tryd.underlying169
 a46 := Tryd.isAgg169
 z46 := Tryd.sizeOf169
 v46 := Tryd.zeroValue169
 t51 := Tryd.underlying22
 a51 := Tryd.isAgg22
 z51 := Tryd.sizeOf22
 v51 := Tryd.zeroValue22
 t53 := Tryd.underlying76
 a53 := Tryd.isAgg76
 z53 := Tryd.sizeOf76
 v53 := Tryd.zeroValue76
 t75 := Tryd.underlying92
 a75 := Tryd.isAgg92
 z75 := Tryd.sizeOf92
 v75 := Tryd.zeroValue92
 t127 := Tryd.underlying104
 a127 := Tryd.isAgg104
 z127 := Tryd.sizeOf104
 v127 := Tryd.zeroValue104
 t143 := Tryd.underlying195
 a143 := Tryd.isAgg195
 z143 := Tryd.sizeOf195
 v143 := Tryd.zeroValue195
 t145 := Tryd.underlying197
 a145 := Tryd.isAgg197
 z145 := Tryd.sizeOf197
 v145 := Tryd.zeroValue197
 t167 := Tryd.underlying181
 a167 := Tryd.isAgg181
 z167 := Tryd.sizeOf181
 v167 := Tryd.zeroValue181
 t168 := Tryd.underlying182
 a168 := Tryd.isAgg182
 z168 := Tryd.sizeOf182
 v168 := Tryd.zeroValue182
 t171 := Tryd.underlying149
 a171 := Tryd.isAgg149
 z171 := Tryd.sizeOf149
 v171 := Tryd.zeroValue149
 t173 := Tryd.underlying152
 a173 := Tryd.isAgg152
 z173 := Tryd.sizeOf152
 v173 := Tryd.zeroValue152
 t210 := Tryd.underlying191
 a210 := Tryd.isAgg191
 z210 := Tryd.sizeOf191
 v210 := Tryd.zeroValue191
 t212 := Tryd.underlying172
 a212 := Tryd.isAgg172
 z212 := Tryd.sizeOf172
 v212 := Tryd.zeroValue172
 t213 := Tryd.underlying173
 a213 := Tryd.isAgg173
 z213 := Tryd.sizeOf173
 t232 := Tryd.underlying193
 a232 := Tryd.isAgg193
 z232 := Tryd.sizeOf193
 v232 := Tryd.zeroValue193
 t233 := Tryd.underlying194
 a233 := Tryd.isAgg194
 z233 := Tryd.sizeOf194
 v233 := Tryd.zeroValue194
 g15 := by kernel_rfl
 g16 := by kernel_rfl
 g17 := by kernel_rfl
 g18 := by kernel_rfl
 g19 := by kernel_rfl
 t80 := Tryd.underlying69
 a80 := Tryd.isAgg69
 z80 := Tryd.sizeOf69
 v80 := Tryd.zeroValue69
 i0 := by kernel_rfl
 i2 := by kernel_rfl
 i3 := by kernel_rfl
 i4 := by kernel_rfl
 i5 := by kernel_rfl
 i9 := by kernel_rfl
 i20 := by kernel_rfl
 i37 := by kernel_rfl
 i46 := by kernel_rfl
 i51 := by kernel_rfl
 i53 := by kernel_rfl
 i75 := by kernel_rfl
 i80 := by kernel_rfl
 i127 := by kernel_rfl
 i143 := by kernel_rfl
 i145 := by kernel_rfl
 i167 := by kernel_rfl
 i168 := by kernel_rfl
 i171 := by kernel_rfl
 i173 := by kernel_rfl
 i210 := by kernel_rfl
 i212 := by kernel_rfl
 i232 := by kernel_rfl
 i233 := by kernel_rfl
 m15 := by kernel_rfl
 m16 := by kernel_rfl
 m17 := by kernel_rfl
 m18 := by kernel_rfl
 m19 := by kernel_rfl
 c0 := by kernel_rfl
 c2 := by kernel_rfl
 c3 := by kernel_rfl
 c4 := by kernel_rfl
 c5 := by kernel_rfl
 c9 := by kernel_rfl
 c20 := by kernel_rfl
 c37 := by kernel_rfl
 c46 := by kernel_rfl
 c51 := by kernel_rfl
 c53 := by kernel_rfl
 c75 := by kernel_rfl
 c80 := by kernel_rfl
 c127 := by kernel_rfl
 c143 := by kernel_rfl
 c145 := by kernel_rfl
 c167 := by kernel_rfl
 c168 := by kernel_rfl
 c171 := by kernel_rfl
 c173 := by kernel_rfl
 c210 := by kernel_rfl
 c212 := by kernel_rfl
 c213 := by kernel_rfl
 c232 := by kernel_rfl
 c233 := by kernel_rfl }
def zgo : Go.Shelf.Ren := ⟨fun | 321 => 108 | n => n, fun | 5 => 5 | n => n, fun | n => n⟩
theorem zlF : Go.Proofs.Lays.n321 Tryd.prog zgo := {
 mixed := by kernel_rfl
 f321 := Tryd.func108.trans (congrArg some Kr)
 t5 := Tryd.underlying5
 a5 := Tryd.isAgg5
 z5 := Tryd.sizeOf5
 v5 := Tryd.zeroValue5 }
def zfV : Go.Shelf.Ren := ⟨fun | 14 => 67 | 16 => 87 | 17 => 88 | 19 => 108 | 20 => 109 | 21 => 110 | 22 => 111 | 23 => 112 | 24 => 113 | 25 => 120 | 27 => 122 | 26 => 121 | 28 => 123 | 29 => 124 | 30 => 76 | 31 => 77 | 32 => 78 | 33 => 79 | 35 => 98 | 34 => 97 | 36 => 99 | 37 => 100 | 38 => 101 | 39 => 118 | 40 => 119 | n => n, fun | 9 => 9 | 3 => 3 | 22 => 76 | 24 => 92 | 25 => 134 | 4 => 4 | 34 => 181 | 5 => 5 | 36 => 169 | 37 => 56 | 0 => 0 | 39 => 182 | 21 => 21 | 44 => 191 | 47 => 104 | 50 => 197 | 48 => 195 | 2 => 2 | 52 => 149 | 55 => 152 | 59 => 172 | 60 => 22 | 20 => 20 | 61 => 173 | 65 => 193 | 66 => 194 | 67 => 69 | n => n, fun | 0 => 1 | 1 => 2 | 2 => 0 | 3 => 4 | 4 => 5 | n => n⟩
theorem zdP : Go.Proofs.LaysPu.n14 Tryd.prog zfV := {
 mixed := by kernel_rfl
 f14 := Tryd.func67.trans (congrArg some Kr)
 f16 := Tryd.func87.trans (congrArg some Kr)
 f17 := Tryd.func88.trans (congrArg some Kr)
 f19 := Tryd.func108.trans (congrArg some Kr)
 f20 := Tryd.func109.trans (congrArg some Kr)
 f21 := Tryd.func110.trans (congrArg some Kr)
 f22 := Tryd.func111.trans (congrArg some Kr)
 f23 := Tryd.func112.trans (congrArg some Kr)
 f24 := Tryd.func113.trans (congrArg some Kr)
 f25 := Tryd.func120.trans (congrArg some Kr)
 f26 := Tryd.func121.trans (congrArg some Kr)
 f27 := Tryd.func122.trans (congrArg some Kr)
 f28 := Tryd.func123.trans (congrArg some Kr)
 f29 := Tryd.func124.trans (congrArg some Kr)
 f30 := Tryd.func76.trans (congrArg some Kr)
 f31 := Tryd.func77.trans (congrArg some Kr)
 f32 := Tryd.func78.trans (congrArg some Kr)
 f33 := Tryd.func79.trans (congrArg some Kr)
 f34 := Tryd.func97.trans (congrArg some Kr)
 f35 := Tryd.func98.trans (congrArg some Kr)
 f36 := Tryd.func99.trans (congrArg some Kr)
 f37 := Tryd.func100.trans (congrArg some Kr)
 f38 := Tryd.func101.trans (congrArg some Kr)
 f39 := Tryd.func118.trans (congrArg some Kr)
 f40 := Tryd.func119.trans (congrArg some Kr)
 t0 := Tryd.underlying0
 a0 := Tryd.isAgg0
 z0 := Tryd.sizeOf0
 v0 := Tryd.zeroValue0
 i0 := by kernel_rfl
 t2 := Tryd.underlying2
 a2 := Tryd.isAgg2
 z2 := Tryd.sizeOf2
 v2 := Tryd.zeroValue2
 i2 := by kernel_rfl
 t3 := Tryd.underlying3
 a3 := Tryd.isAgg3
 z3 := Tryd.sizeOf3
 v3 := Tryd.zeroValue3
 i3 := by kernel_rfl
 t4 := Tryd.underlying4
 a4 := Tryd.isAgg4
 z4 := Tryd.sizeOf4
 v4 := Tryd.zeroValue4
 i4 := by kernel_rfl
 t5 := Tryd.underlying5
 a5 := Tryd.isAgg5
 z5 := Tryd.sizeOf5
 v5 := Tryd.zeroValue5
 i5 := by kernel_rfl
 t9 := Tryd.underlying9
 a9 := Tryd.isAgg9
 z9 := Tryd.sizeOf9
 v9 := Tryd.zeroValue9
 i9 := by kernel_rfl
 t20 := Tryd.underlying20
 a20 := Tryd.isAgg20
 z20 := Tryd.sizeOf20
 v20 := Tryd.zeroValue20
 i20 := by kernel_rfl
 t21 := Tryd.underlying21
 a21 := Tryd.isAgg21
 z21 := Tryd.sizeOf21
 v21 := Tryd.zeroValue21
 i21 := by kernel_rfl
 t22 := Tryd.underlying76
 a22 := Tryd.isAgg76
 z22 := Tryd.sizeOf76
 v22 := Tryd.zeroValue76
 i22 := by kernel_rfl
 t24 := Tryd.underlying92
 a24 := Tryd.isAgg92
 z24 := Tryd.sizeOf92
 v24 := Tryd.zeroValue92
 i24 := by kernel_rfl
 t25 := Tryd.underlying134
 a25 := Tryd.isAgg134
 z25 := Tryd.sizeOf134
 v25 := Tryd.zeroValue134
 i25 := by kernel_rfl
 t34 := Tryd.underlying181
 a34 := Tryd.isAgg181
 z34 := Tryd.sizeOf181
 v34 := Tryd.zeroValue181
 i34 := by kernel_rfl
 c34 := by kernel_rfl
 t36 := Tryd.underlying169
 a36 := Tryd.isAgg169
 z36 := Tryd.sizeOf169
 v36 := Tryd.zeroValue169
 i36 := by kernel_rfl
 t37 := Tryd.underlying56
 a37 := Tryd.isAgg56
 z37 := Tryd.sizeOf56
 v37 := Tryd.zeroValue56
 i37 := by kernel_rfl
 t39 := Tryd.underlying182
 a39 := Tryd.isAgg182
 z39 := Tryd.sizeOf182
 v39 := Tryd.zeroValue182
 i39 := by kernel_rfl
 t44 := Tryd.underlying191
 a44 := Tryd.isAgg191
 z44 := Tryd.sizeOf191
 v44 := Tryd.zeroValue191
 i44 := by kernel_rfl
 t47 := Tryd.underlying104
 a47 := Tryd.isAgg104
 z47 := Tryd.sizeOf104
 v47 := Tryd.zeroValue104
 i47 := by kernel_rfl
 t48 := Tryd.underlying195
 a48 := Tryd.isAgg195
 z48 := Tryd.sizeOf195
 v48 := Tryd.zeroValue195
 i48 := by kernel_rfl
 t50 := Tryd.underlying197
 a50 := Tryd.isAgg197
 z50 := Tryd.sizeOf197
 v50 := Tryd.zeroValue197
 i50 := by kernel_rfl
 t52 := Tryd.underlying149
 a52 := Tryd.isAgg149
 z52 := Tryd.sizeOf149
 v52 := Tryd.zeroValue149
 i52 := by kernel_rfl
 t55 := Tryd.underlying152
 a55 := Tryd.isAgg152
 z55 := Tryd.sizeOf152
 v55 := Tryd.zeroValue152
 i55 := by kernel_rfl
 t59 := Tryd.underlying172
 a59 := Tryd.isAgg172
 z59 := Tryd.sizeOf172
 v59 := Tryd.zeroValue172
 i59 := by kernel_rfl
 t60 := Tryd.underlying22
 a60 := Tryd.isAgg22
 z60 := Tryd.sizeOf22
 v60 := Tryd.zeroValue22
 i60 := by kernel_rfl
 t61 := Tryd.underlying173
 a61 := Tryd.isAgg173
 z61 := Tryd.sizeOf173
 t65 := Tryd.underlying193
 a65 := Tryd.isAgg193
 z65 := Tryd.sizeOf193
 v65 := Tryd.zeroValue193
 i65 := by kernel_rfl
 t66 := Tryd.underlying194
 a66 := Tryd.isAgg194
 z66 := Tryd.sizeOf194
 v66 := Tryd.zeroValue194
 i66 := by kernel_rfl
 t67 := Tryd.underlying69
 a67 := Tryd.isAgg69
 z67 := Tryd.sizeOf69
 v67 := Tryd.zeroValue69
 i67 := by kernel_rfl
 g0 := by kernel_rfl
 m0 := by kernel_rfl
 g1 := by kernel_rfl
 m1 := by kernel_rfl
 g2 := by kernel_rfl
 m2 := by kernel_rfl
 g3 := by kernel_rfl
 m3 := by kernel_rfl
 g4 := by kernel_rfl
 m4 := by kernel_rfl }
end Go.SK
namespace Go.SK
open Go Go.Proofs
theorem ty5 : TyF Tryd.prog 5 (.int .u8) 1 1 [.int .u8 0] := zaZ Kr Kr
theorem zc8 : TyF Tryd.prog 76 (.int .u64) 1 8 [.int .u64 0] := zaZ Kr Kr
end Go.SK
namespace Go.SK
open Go Go.Proofs
open Go.RowKit
theorem zgf (c : UInt8) (w : World) : Ret Tryd.prog 49 #[.int .u8 (c.toNat : Int)] w (fun v w' => v = .int .i64 (zc6 c) ∧ St w NoM [] [] w') := by
 refine zaq (args := [.int .u8 (c.toNat : Int)]) Tryd.func49 rfl rfl rfl ?_
 have hst := St.init w
 refine SR <| AI rfl <| NL <| SQ <| zan <| SQ <| SR <| MC rfl <| CN <| zai rfl rfl <| AB rfl <| NL <| zaa rfl (fun g1 => ?_) (fun g1 => ?_)
 ·refine zah <| zas (Vb (Dt g1)) <| SR <| AI rfl <| NL <| zac Tryd.func49 rfl (TP (v := .int .i64 _) rfl) <| ⟨Vi ?_, hst.pure⟩
  first | exact (zcn Om).symm | exact (zcm Om Om).symm | exact (zcl Om).symm | exact (zco Om Om Om).symm
 refine SR <| MC rfl <| CN <| zai rfl rfl <| AB rfl <| NL <| zaa rfl (fun g2 => ?_) (fun g2 => ?_)
 ·refine zah <| zas (Vb (Dt g2)) <| SR <| AI rfl <| NL <| zac Tryd.func49 rfl (TP (v := .int .i64 _) rfl) <| ⟨Vi ?_, hst.pure⟩
  first | exact (zcn Om).symm | exact (zcm Om Om).symm | exact (zcl Om).symm | exact (zco Om Om Om).symm
 refine RG <| MC rfl <| CN <| zai rfl rfl <| AB rfl <| NL <| zaa rfl (fun g3 => ?_) (fun g3 => ?_)
 ·refine SR <| AI rfl <| NL <| zac Tryd.func49 rfl (TP (v := .int .i64 _) rfl) <| ⟨Vi ?_, hst.pure⟩
  first | exact (zcn Om).symm | exact (zcm Om Om).symm | exact (zcl Om).symm | exact (zco Om Om Om).symm
 refine SQ <| SR <| MC rfl <| CN <| za1 rfl rfl <| MB rfl <| zap (d := 13) rfl (fun g4 => ?_) (fun g4 => ?_)
 ·refine TK (t := 13) rfl (Vb (Dt g4)) <| zad (v := .int .u8 _) rfl <| TK (t := 13) rfl (Vb (Dt g4)) <| zba rfl rfl <| CN <| zar (u := .bool _) (Vb (Dt g4)) rfl <| AB rfl <| NL <| zaa rfl (fun g5 => ?_) (fun g5 => ?_)
  ·refine zah <| zas (Vb (Dt g5)) <| SR <| AI rfl <| NL <| zac Tryd.func49 rfl (TP (v := .int .i64 _) rfl) <| ⟨Vi ?_, hst.pure⟩
   first | exact (zcn Om).symm | exact (zcm Om Om).symm | exact (zcl Om).symm | exact (zco Om Om Om).symm
  refine SR <| MC rfl <| CN <| za1 rfl rfl <| MB rfl <| zap (d := 19) rfl (fun g6 => ?_) (fun g6 => ?_)
  ·refine TK (t := 19) rfl (Vb (Dt g6)) <| zad (v := .int .u8 _) rfl <| TK (t := 19) rfl (Vb (Dt g6)) <| zba rfl rfl <| CN <| zar (u := .bool _) (Vb (Dt g6)) rfl <| AB rfl <| NL <| zak [(0, .int .u8 _), (10, .bool _)] E2 fun f => zaa rfl (fun g7 => ?_) (fun g7 => ?_)
   ·refine zah <| zas (Vb (Dt g7)) <| SR <| AI rfl <| NL <| zac Tryd.func49 rfl (TP (v := .int .i64 _) rfl) <| ⟨Vi ?_, hst.pure⟩
    first | exact (zcn Om).symm | exact (zcm Om Om).symm | exact (zcl Om).symm | exact (zco Om Om Om).symm
   refine RG <| MC rfl <| CN <| zai rfl rfl <| AB rfl <| NL <| zaa rfl (fun g8 => ?_) (fun g8 => ?_)
   ·refine SR <| AI rfl <| NL <| zac Tryd.func49 rfl (TP (v := .int .i64 _) rfl) <| ⟨Vi ?_, hst.pure⟩
    first | exact (zcn Om).symm | exact (zcm Om Om).symm | exact (zcl Om).symm | exact (zco Om Om Om).symm
   refine SR <| MC rfl <| CN <| za1 rfl rfl <| MB rfl <| zap (d := 28) rfl (fun g9 => ?_) (fun g9 => ?_)
   ·refine TK (t := 28) rfl (Vb (Dt g9)) <| zad (v := .int .u8 _) rfl <| TK (t := 28) rfl (Vb (Dt g9)) <| zba rfl rfl <| CN <| zar (u := .bool _) (Vb (Dt g9)) rfl <| AB rfl <| NL <| zaa rfl (fun g10 => ?_) (fun g10 => ?_)
    ·refine SR <| AI rfl <| NL <| zac Tryd.func49 rfl (TP (v := .int .i64 _) rfl) <| ⟨Vi ?_, hst.pure⟩
     first | exact (zcn Om).symm | exact (zcm Om Om).symm | exact (zcl Om).symm | exact (zco Om Om Om).symm
    refine zah <| zaj <| SR <| AI rfl <| NL <| zac Tryd.func49 rfl (TP (v := .int .i64 _) rfl) <| ⟨Vi ?_, hst.pure⟩
    first | exact (zcn Om).symm | exact (zcm Om Om).symm | exact (zcl Om).symm | exact (zco Om Om Om).symm
   refine OM (t := 28) rfl (Vb (Df g9)) rfl <| OM (t := 28) rfl (Vb (Df g9)) rfl <| CN <| zam (u := .bool _) (Vb (Df g9)) rfl <| AB rfl <| NL <| zal (Vb (rfl : false = _)) <| zah <| zaj <| SR <| AI rfl <| NL <| zac Tryd.func49 rfl (TP (v := .int .i64 _) rfl) <| ⟨Vi ?_, hst.pure⟩
   first | exact (zcn Om).symm | exact (zcm Om Om).symm | exact (zcl Om).symm | exact (zco Om Om Om).symm
  refine OM (t := 19) rfl (Vb (Df g6)) rfl <| OM (t := 19) rfl (Vb (Df g6)) rfl <| CN <| zam (u := .bool _) (Vb (Df g6)) rfl <| AB rfl <| NL <| zak [(0, .int .u8 _), (10, .bool _)] E2 fun f => zal (Vb (rfl : false = _)) <| RG <| MC rfl <| CN <| zai rfl rfl <| AB rfl <| NL <| zaa rfl (fun g11 => ?_) (fun g11 => ?_)
  ·refine SR <| AI rfl <| NL <| zac Tryd.func49 rfl (TP (v := .int .i64 _) rfl) <| ⟨Vi ?_, hst.pure⟩
   first | exact (zcn Om).symm | exact (zcm Om Om).symm | exact (zcl Om).symm | exact (zco Om Om Om).symm
  refine SR <| MC rfl <| CN <| za1 rfl rfl <| MB rfl <| zap (d := 28) rfl (fun g12 => ?_) (fun g12 => ?_)
  ·refine TK (t := 28) rfl (Vb (Dt g12)) <| zad (v := .int .u8 _) rfl <| TK (t := 28) rfl (Vb (Dt g12)) <| zba rfl rfl <| CN <| zar (u := .bool _) (Vb (Dt g12)) rfl <| AB rfl <| NL <| zaa rfl (fun g13 => ?_) (fun g13 => ?_)
   ·refine SR <| AI rfl <| NL <| zac Tryd.func49 rfl (TP (v := .int .i64 _) rfl) <| ⟨Vi ?_, hst.pure⟩
    first | exact (zcn Om).symm | exact (zcm Om Om).symm | exact (zcl Om).symm | exact (zco Om Om Om).symm
   refine zah <| zaj <| SR <| AI rfl <| NL <| zac Tryd.func49 rfl (TP (v := .int .i64 _) rfl) <| ⟨Vi ?_, hst.pure⟩
   first | exact (zcn Om).symm | exact (zcm Om Om).symm | exact (zcl Om).symm | exact (zco Om Om Om).symm
  refine OM (t := 28) rfl (Vb (Df g12)) rfl <| OM (t := 28) rfl (Vb (Df g12)) rfl <| CN <| zam (u := .bool _) (Vb (Df g12)) rfl <| AB rfl <| NL <| zal (Vb (rfl : false = _)) <| zah <| zaj <| SR <| AI rfl <| NL <| zac Tryd.func49 rfl (TP (v := .int .i64 _) rfl) <| ⟨Vi ?_, hst.pure⟩
  first | exact (zcn Om).symm | exact (zcm Om Om).symm | exact (zcl Om).symm | exact (zco Om Om Om).symm
 refine OM (t := 13) rfl (Vb (Df g4)) rfl <| OM (t := 13) rfl (Vb (Df g4)) rfl <| CN <| zam (u := .bool _) (Vb (Df g4)) rfl <| AB rfl <| NL <| zal (Vb (rfl : false = _)) <| SR <| MC rfl <| CN <| za1 rfl rfl <| MB rfl <| zap (d := 19) rfl (fun g14 => ?_) (fun g14 => ?_)
 ·refine TK (t := 19) rfl (Vb (Dt g14)) <| zad (v := .int .u8 _) rfl <| TK (t := 19) rfl (Vb (Dt g14)) <| zba rfl rfl <| CN <| zar (u := .bool _) (Vb (Dt g14)) rfl <| AB rfl <| NL <| zak [(0, .int .u8 _), (10, .bool _)] E2 fun f => zaa rfl (fun g15 => ?_) (fun g15 => ?_)
  ·refine zah <| zas (Vb (Dt g15)) <| SR <| AI rfl <| NL <| zac Tryd.func49 rfl (TP (v := .int .i64 _) rfl) <| ⟨Vi ?_, hst.pure⟩
   first | exact (zcn Om).symm | exact (zcm Om Om).symm | exact (zcl Om).symm | exact (zco Om Om Om).symm
  refine RG <| MC rfl <| CN <| zai rfl rfl <| AB rfl <| NL <| zaa rfl (fun g16 => ?_) (fun g16 => ?_)
  ·refine SR <| AI rfl <| NL <| zac Tryd.func49 rfl (TP (v := .int .i64 _) rfl) <| ⟨Vi ?_, hst.pure⟩
   first | exact (zcn Om).symm | exact (zcm Om Om).symm | exact (zcl Om).symm | exact (zco Om Om Om).symm
  refine SR <| MC rfl <| CN <| za1 rfl rfl <| MB rfl <| zap (d := 28) rfl (fun g17 => ?_) (fun g17 => ?_)
  ·refine TK (t := 28) rfl (Vb (Dt g17)) <| zad (v := .int .u8 _) rfl <| TK (t := 28) rfl (Vb (Dt g17)) <| zba rfl rfl <| CN <| zar (u := .bool _) (Vb (Dt g17)) rfl <| AB rfl <| NL <| zaa rfl (fun g18 => ?_) (fun g18 => ?_)
   ·refine SR <| AI rfl <| NL <| zac Tryd.func49 rfl (TP (v := .int .i64 _) rfl) <| ⟨Vi ?_, hst.pure⟩
    first | exact (zcn Om).symm | exact (zcm Om Om).symm | exact (zcl Om).symm | exact (zco Om Om Om).symm
   refine zah <| zaj <| SR <| AI rfl <| NL <| zac Tryd.func49 rfl (TP (v := .int .i64 _) rfl) <| ⟨Vi ?_, hst.pure⟩
   first | exact (zcn Om).symm | exact (zcm Om Om).symm | exact (zcl Om).symm | exact (zco Om Om Om).symm
  refine OM (t := 28) rfl (Vb (Df g17)) rfl <| OM (t := 28) rfl (Vb (Df g17)) rfl <| CN <| zam (u := .bool _) (Vb (Df g17)) rfl <| AB rfl <| NL <| zal (Vb (rfl : false = _)) <| zah <| zaj <| SR <| AI rfl <| NL <| zac Tryd.func49 rfl (TP (v := .int .i64 _) rfl) <| ⟨Vi ?_, hst.pure⟩
  first | exact (zcn Om).symm | exact (zcm Om Om).symm | exact (zcl Om).symm | exact (zco Om Om Om).symm
 refine OM (t := 19) rfl (Vb (Df g14)) rfl <| OM (t := 19) rfl (Vb (Df g14)) rfl <| CN <| zam (u := .bool _) (Vb (Df g14)) rfl <| AB rfl <| NL <| zak [(0, .int .u8 _), (10, .bool _)] E2 fun f => zal (Vb (rfl : false = _)) <| RG <| MC rfl <| CN <| zai rfl rfl <| AB rfl <| NL <| zaa rfl (fun g19 => ?_) (fun g19 => ?_)
 ·refine SR <| AI rfl <| NL <| zac Tryd.func49 rfl (TP (v := .int .i64 _) rfl) <| ⟨Vi ?_, hst.pure⟩
  first | exact (zcn Om).symm | exact (zcm Om Om).symm | exact (zcl Om).symm | exact (zco Om Om Om).symm
 refine SR <| MC rfl <| CN <| za1 rfl rfl <| MB rfl <| zap (d := 28) rfl (fun g20 => ?_) (fun g20 => ?_)
 ·refine TK (t := 28) rfl (Vb (Dt g20)) <| zad (v := .int .u8 _) rfl <| TK (t := 28) rfl (Vb (Dt g20)) <| zba rfl rfl <| CN <| zar (u := .bool _) (Vb (Dt g20)) rfl <| AB rfl <| NL <| zaa rfl (fun g21 => ?_) (fun g21 => ?_)
  ·refine SR <| AI rfl <| NL <| zac Tryd.func49 rfl (TP (v := .int .i64 _) rfl) <| ⟨Vi ?_, hst.pure⟩
   first | exact (zcn Om).symm | exact (zcm Om Om).symm | exact (zcl Om).symm | exact (zco Om Om Om).symm
  refine zah <| zaj <| SR <| AI rfl <| NL <| zac Tryd.func49 rfl (TP (v := .int .i64 _) rfl) <| ⟨Vi ?_, hst.pure⟩
  first | exact (zcn Om).symm | exact (zcm Om Om).symm | exact (zcl Om).symm | exact (zco Om Om Om).symm
 refine OM (t := 28) rfl (Vb (Df g20)) rfl <| OM (t := 28) rfl (Vb (Df g20)) rfl <| CN <| zam (u := .bool _) (Vb (Df g20)) rfl <| AB rfl <| NL <| zal (Vb (rfl : false = _)) <| zah <| zaj <| SR <| AI rfl <| NL <| zac Tryd.func49 rfl (TP (v := .int .i64 _) rfl) <| ⟨Vi ?_, hst.pure⟩
 first | exact (zcn Om).symm | exact (zcm Om Om).symm | exact (zcl Om).symm | exact (zco Om Om Om).symm
end Go.SK
namespace Go.SK
open Go Go.Proofs
theorem ty9 : TyF Tryd.prog 9 .string 1 16 [str []] := zaZ Kr Kr
theorem ent49 : zaB Tryd.prog 49 := ⟨Tryd.f49, _, Tryd.func49, Kr, rfl⟩
end Go.SK
namespace Go.SK
open Go Go.Proofs
open Go.RowKit
theorem zk3 (s : Tx) (w : World) (hl : s.length ≤ 140737488355328) : Ret Tryd.prog 64 #[str s] w (fun v w' => v = str (zbY s) ∧ St w NoM [] [] w') := by
 refine zaq (args := [str s]) Tryd.func64 rfl rfl rfl ?_
 have hst := St.init w
 refine SR <| AS rfl <| NSR <| AI rfl <| NL <| SQ <| zan <| zaY <| za4 [(0, str _)] ⟨rfl, trivial⟩ (fun (qq : Nat) => [(3, .int .i64 (qq : Int))]) (fun (qq : Nat) => []) (fun (qq : Nat) => qq ≤ s.length ∧ (zbY s).length = qq + (zbY (s.drop qq)).length) (fun (qq : Nat) => s.length - qq) (0) hst ⟨Nat.zero_le _, (Nat.zero_add _).symm⟩ ⟨rfl, trivial⟩ ?_
 intro i f w hst hJ ih1
 replace hst : St _ _ ([] ++ []) _ _ := hst
 replace hJ : i ≤ s.length ∧ (zbY s).length = i + (zbY (s.drop i)).length := hJ
 refine zbp (sl := [(3, .int .i64 (i : Int))]) ⟨rfl, trivial⟩ ?_
 have hidx : zc6 (s.getD ((i : Int).toNat) 0) = zc6 (s.getD i 0) := rfl
 refine SQ <| SR <| MI rfl <| MS rfl <| CN <| zbs (rest := []) ty9 rfl <| CN <| zaR rfl rfl <| MB rfl <| zap (d := 8) rfl (fun g2 => ?_) (fun g2 => ?_)
 ·refine TK (t := 8) rfl (Vb (Dt g2)) <| zad (v := str _) rfl <| TK (t := 8) rfl (Vb (Dt g2)) <| zad (v := .int .i64 _) rfl <| TK (t := 8) rfl (Vb (Dt g2)) <| za9 ty9 rfl rfl Om Om <| TK (t := 8) rfl (Vb (Dt g2)) (zao (v1 := .int .u8 _) ent49 rfl rfl ((zgf _ _).mono fun v w hp => ?_))
  obtain ⟨rfl, hp⟩ := hp
  replace hst := hst.keepc hp
  clear hp
  refine TK (t := 8) rfl (Vb (Dt g2)) <| za1 rfl rfl <| CN <| zar (u := .bool _) (Vb (Dt g2)) rfl <| NL <| zaa rfl (fun g3 => ?_) (fun g3 => ?_)
  ·refine zah <| zan <| RG <| MI rfl <| CN <| zaC rfl rfl rfl zck <| AI rfl <| NL <| zaj <| zax ?_
   have hs1 := zoJ (s := s) (i := i) Om ((zkK (s.getD i 0)).1 Om)
   exact ih1 (i + 1) _ w Om hst (⟨by omega, by omega⟩) ⟨rfl, trivial⟩ ⟨(Vi Om), trivial⟩
  refine zaI (id := 0) rfl <| SR <| MS rfl <| MI rfl <| CN <| zgi ty9 rfl rfl Om Om <| AS rfl <| NL <| zac Tryd.func64 rfl (TP (v := str _) rfl) ?_
  have hz : (zbY (s.drop i)).length = 0 := zoI Om (fun hr => by have := (zkK (s.getD i 0)).2 hr; omega)
  refine ⟨congrArg str ?_, hst.pure⟩
  exact zic s Om
 refine OM (t := 8) rfl (Vb (Df g2)) rfl <| OM (t := 8) rfl (Vb (Df g2)) rfl <| OM (t := 8) rfl (Vb (Df g2)) rfl <| OM (t := 8) rfl (Vb (Df g2)) rfl <| OM (t := 8) rfl (Vb (Df g2)) rfl <| CN <| zam (u := .bool _) (Vb (Df g2)) rfl <| NL <| zal (Vb (rfl : false = _)) <| zaI (id := 0) rfl <| SR <| MS rfl <| MI rfl <| CN <| zgi ty9 rfl rfl Om Om <| AS rfl ?_
 refine NL <| zac Tryd.func64 rfl (TP (v := str _) rfl) ?_
 have hz : (zbY (s.drop i)).length = 0 := zqn Om
 refine ⟨congrArg str ?_, hst.pure⟩
 exact zic s Om
end Go.SK
namespace Go.SK
open Go Go.Proofs
theorem zbT : TyF Tryd.prog 22 (.int .u32) 1 4 [.int .u32 0] := zaZ Kr Kr
theorem zaE : Tryd.prog.follows .mixedOrders = true := by kernel_rfl
end Go.SK
namespace Go.SK
open Go Go.Proofs
open Go.RowKit
open Go.Shelf
def LxG : Res where
 foot := fun b => b = 1 ∨ b = 2 ∨ b = 0
 holds := fun w => (∃ tp p T fz, w.heap[1]? = some (.cells #[.iface tp p] T fz)) ∧ (∃ tp p T fz, w.heap[2]? = some (.cells #[.iface tp p] T fz)) ∧ ∃ T fz, w.heap[0]? = some (.cells (Lib.pow10Tab.map fun z => Value.int .u64 z).toArray T fz)
 stable := fun w w' h hh => by rw [h _ (.inl rfl), h _ (.inr (.inl rfl)), h _ (.inr (.inr rfl))]; exact hh
 inb := fun w hh b hb => by
  obtain ⟨⟨_, _, _, _, h0⟩, ⟨_, _, _, _, h1⟩, ⟨_, _, h3⟩⟩ := hh
  rcases hb with rfl | rfl | rfl
  ·exact (Array.getElem?_eq_some_iff.1 h0).1
  ·exact (Array.getElem?_eq_some_iff.1 h1).1
  ·exact (Array.getElem?_eq_some_iff.1 h3).1
theorem zmC {P : Program} {n : String} {k : Nat} {w : World} {cs : Array Value} {T : TypeId} {fz : Nat × Nat} (hn : P.globalNamed n = some k) (h : w.heap[k]? = some (.cells cs T fz)) : w.var? P n = some cs := by
 simp [World.var?, hn, h]
theorem zqS {w : World} {k : Nat} {v : Value} {T : TypeId} {fz : Nat × Nat} (h : w.heap[k]? = some (.cells #[v] T fz)) : w.cell? ⟨k, 0, none⟩ = some v := by
 simp [World.cell?, h]
theorem zqz (s : Tx) (w : World) (hG : LxG.holds w) (hl : s.length ≤ 140737488355328) : Ret Tryd.prog 67 #[str s, .int .i64 10, .int .i64 32] w (fun v w' => (((puO s).isSome = true ∧ v = .tuple #[.int .u64 (puV s : Int), .nilIface]) ∨ ((puO s).isSome = false ∧ ∃ N, v = .tuple #[.int .u64 (puV s : Int), .iface 182 (.pointer (some ⟨N, 0, none⟩))])) ∧ St w NoM [] [] w') := by
 obtain ⟨⟨tp0, p0, _, _, h0⟩, ⟨tp1, p1, _, _, h1⟩, _⟩ := hG
 unfold puO puV
 cases h : Lib.parseUintB 32 s
 ·rename_i u
  refine Calls.mono (Any.strconv_ParseUint_10_at32_ok zdP ⟨s.toArray⟩ (by rw [zdt]; omega) u h w) ?_
  rintro e w' ⟨he, hw⟩
  refine ⟨_, he, .inl ⟨rfl, rfl⟩, ?_⟩
  rcases hw with rfl | rfl
  ·exact St.init _
  ·exact St.ofBelow (Lib.bytesWorld_below _ _ _)
 ·refine Calls.mono (Any.strconv_ParseUint_10_at32_syntax_var zdP ⟨s.toArray⟩ (by rw [zdt]; omega) h tp0 p0 w (zmC (by kernel_rfl) h0)) ?_
  rintro e w' ⟨N, he, _, _, hw⟩
  exact ⟨_, he, .inr ⟨rfl, N, rfl⟩, St.ofBelow hw⟩
 ·refine Calls.mono (Any.strconv_ParseUint_10_at32_range_var zdP ⟨s.toArray⟩ (by rw [zdt]; omega) h tp1 p1 w (zmC (by kernel_rfl) h1)) ?_
  rintro e w' ⟨N, he, _, _, hw⟩
  exact ⟨_, he, .inr ⟨rfl, N, rfl⟩, St.ofBelow hw⟩
theorem lx_CP (s p : Tx) (w : World) : Ret Tryd.prog 66 #[str s, str p] w (fun v w' => v = .tuple #[str (Lib.trimPrefix s p), .bool (Lib.hasPrefix s p)] ∧ St w NoM [] [] w') :=
 zdC (Any.strings_CutPrefix zlJ ⟨s.toArray⟩ ⟨p.toArray⟩ w)
theorem zit (s p : Tx) (w : World) : Ret Tryd.prog 66 #[str s, str p] w (fun v w' => (s.take p.length = p ∧ v = .tuple #[str (s.drop p.length), .bool true] ∧ St w NoM [] [] w') ∨ (s.take p.length ≠ p ∧ v = .tuple #[str s, .bool false] ∧ St w NoM [] [] w')) :=
 (lx_CP s p w).mono fun v w' ⟨hv, hst⟩ => by
  cases h : Lib.hasPrefix s p
  ·exact .inr ⟨(zmH h).2, by rw [hv, (zmH h).1, h], hst⟩
  ·exact .inl ⟨(zku h).2, by rw [hv, (zku h).1, h], hst⟩
theorem lx_IB (s : Tx) (c : Int) (w : World) : Ret Tryd.prog 68 #[str s, .int .u8 c] w (fun v w' => v = .int .i64 (Lib.indexByte s c.toNat.toUInt8) ∧ St w NoM [] [] w') :=
 zdC (Any.strings_IndexByte zlI ⟨s.toArray⟩ c w)
theorem zo2 (i : Nat) (h : i < 100) (w : World) : Ret Tryd.prog 76 #[.int .i64 (i : Int)] w (fun v w' => v = str (Lib.decDigits i) ∧ St w NoM [] [] w') :=
 zdC (Any.internal_strconv_small zlH i h w)
theorem zis (u : Nat) (w : World) (hG : LxG.holds w) (h1 : 1 ≤ u) (h2 : u < 18446744073709551616) : Ret Tryd.prog 77 #[.int .u64 (u : Int)] w (fun v w' => v = .int .i64 (Lib.nDigits u : Int) ∧ St w NoM [] [] w') := by
 obtain ⟨_, _, _, _, h3⟩ := hG
 exact zdC (Any.internal_strconv_numDigits zjK u h1 h2 w (zmC Kr h3))
theorem zbz (c : Int) (w : World) : Ret Tryd.prog 108 #[.int .u8 c] w (fun v w' => v = .int .u8 (bits .or .u8 c 32) ∧ St w NoM [] [] w') :=
 zdC (Any.internal_strconv_lower zlF c w)
theorem lx_TE (f0 s : Tx) (w : World) (hG : LxG.holds w) (hl : s.length ≤ 140737488355328) : Ret Tryd.prog 88 #[str f0, str s, .int .i64 16, .int .i64 32, .iface 181 (.int .i64 2)] w (fun v w' => (∃ N, v = .iface 182 (.pointer (some ⟨N, 0, none⟩))) ∧ St w NoM [] [] w') := by
 obtain ⟨⟨tp0, p0, _, _, h0⟩, _, _⟩ := hG
 refine Calls.mono (Any.strconv_toError_syntax zjL ⟨f0.toArray⟩ ⟨s.toArray⟩ 16 32 (.iface tp0 p0) w (by rw [zdt]; omega) (zqS h0) (.inr ⟨_, _, rfl⟩)) ?_
 rintro e w' ⟨N, he, _, _, hw⟩
 exact ⟨_, he, ⟨N, rfl⟩, St.ofBelow hw⟩
theorem zjM (ao : Option Addr) (cp : Nat) (sep : Tx) (w : World) : Ret Tryd.prog 55 #[.slice ao 0 cp, str sep] w (fun v w' => v = str [] ∧ St w NoM [] [] w') :=
 zdC (Any.strings_Join_none zgN zfY ao cp ⟨sep.toArray⟩ w)
theorem zqA (l : List Tx) (ao : Option Addr) (cp : Nat) (sep : Tx) (w : World) (hR : (Res.rs ao l.length 1 (l.flatMap fun s => [str s])).holds w) (hcp : l.length ≤ cp) (hn : l.length ≤ 140737488355328) (hl : (Lib.join l sep).length ≤ 140737488355328) : Ret Tryd.prog 55 #[.slice ao l.length cp, str sep] w (fun v w' => v = str (Lib.join l sep) ∧ St w NoM [] [] w') := by
 rcases Nat.eq_zero_or_pos l.length with h0 | h0
 ·obtain rfl := List.length_eq_zero_iff.1 h0
  exact zjM ao cp sep w
 ·obtain ⟨b, o, rfl⟩ := Res.rs_some hR h0
  have hm : (l.map fun s => ByteArray.mk s.toArray).map (·.data.toList) = l := by
   rw [List.map_map]; exact (List.map_congr_left (fun s _ => rfl)).trans (List.map_id l)
  have hlen : (l.map fun s => ByteArray.mk s.toArray).length = l.length := List.length_map _
  have := Any.strings_Join zgN zfY b o cp (l.map fun s => ⟨s.toArray⟩) ⟨sep.toArray⟩ w (fun j x hx => ?_) (hR |> fun h => (Res.rs (some ⟨b, o, none⟩) l.length 1 (l.flatMap fun s => [str s])).inb w h b ⟨by rw [zb4 (es := 1) (fun _ => rfl)]; omega, o, rfl⟩) (by rw [hlen]; exact hn) (by rw [hlen]; exact hcp) (by rw [hm]; exact hl)
  ·rw [hm, hlen] at this
   exact zj4 this
  ·rw [List.getElem?_map, Option.map_eq_some_iff] at hx
   obtain ⟨s, hs, rfl⟩ := hx
   refine Res.rs_all hR j _ ?_
   have : ∀ l : List Tx, (l.flatMap fun s => [str s]) = l.map str := fun l => by
    induction l with
    | nil => rfl
    | cons a r ih => rw [List.flatMap_cons, ih]; rfl
   rw [this, List.getElem?_map, hs]; rfl
end Go.SK
namespace Go.SK
open Go Go.Proofs Go.RowKit Go.ChangeShapes Go.WideShapes Go.ChangeAt
open Go.Proofs.YtglmmdpeenckbaaDoor
theorem zjo {P : Program} {n : String} {k : Nat} {w : World} {cs : Array Value} (hn : P.globalNamed n = some k) (h : w.var? P n = some cs) : ∃ T fz, w.heap[k]? = some (.cells cs T fz) := by
 unfold World.var? at h
 rw [hn, Option.bind_some] at h
 split at h
 ·cases h; rename_i T fz he; exact ⟨_, _, he⟩
 ·cases h
theorem lxG_of {W : World} (h : laidMet Tryd.prog Rows.asmHeadsRow.laid W) : LxG.holds W := by
 have h3 := Lib.tabIs_of_head (k := .u64) (zs := Lib.pow10Tab) (g := 0) (t := 172) (e := 76) (n := 20) Kr Kr Tryd.underlying172 Tryd.underlying76 Kr Kr (show laidMet Tryd.prog ((_, Lib.tabData .u64 Lib.pow10Tab) :: _) W from h.tail.tail)
 obtain ⟨a1, s1, hv1, _⟩ := laid_sentinel (g := 2) (ti := 92) (tp := 195) (te := 197) (ts := 9) h.tail.tail.tail Kr Kr Tryd.underlying92 (fun u hu => typeName_ptr_named (nm := "errors.errorString") Kr Kr De u (hu.trans (congrArg some De))) Tryd.underlying195 Tryd.underlying197 rfl rfl Tryd.underlying9 Kr Kr
 obtain ⟨a0, s0, hv0, _⟩ := laid_sentinel (g := 1) (ti := 92) (tp := 195) (te := 197) (ts := 9) h.tail.tail.tail.tail Kr Kr Tryd.underlying92 (fun u hu => typeName_ptr_named (nm := "errors.errorString") Kr Kr De u (hu.trans (congrArg some De))) Tryd.underlying195 Tryd.underlying197 rfl rfl Tryd.underlying9 Kr Kr
 obtain ⟨T1, f1, hh1⟩ := zjo Kr hv1
 obtain ⟨T0, f0, hh0⟩ := zjo Kr hv0
 obtain ⟨T3, f3, hh3⟩ := zjo Kr h3
 exact ⟨⟨_, _, _, _, hh0⟩, ⟨_, _, _, _, hh1⟩, ⟨_, _, hh3⟩⟩
theorem lx_door (os : Os) (args : Array Value) : laidMet Tryd.prog Rows.asmHeadsRow.laid ((World.doorLaid Tryd.prog 400 os).forCall (fun _ _ => 0) ⟨#[], args, []⟩).memory :=
 laidMet_of_run' 8 Kr Kr
theorem lx_own : ownKnob Tryd.prog.godebug = none := by kernel_rfl
theorem lx_out : laidOutB Tryd.prog = true := by kernel_rfl
end Go.SK
namespace Go.SK
open Go.RowKit Go.ChangeShapes Go.WideShapes Go.ChangeAt
def zcA (P : Program) (f : Field) (off n : Nat) (d : TypeDesc) : Prop := f.offset = off ∧ P.cellsOf f.type = n ∧ P.underlying f.type = some d
structure MdTys (P : Program) (M I A : TypeId) where
  m0 : Field
  m1 : Field
  m2 : Field
  i0 : Field
  i1 : Field
  i2 : Field
  i3 : Field
  a0 : Field
  a1 : Field
  a2 : Field
  hM : P.underlying M = some (.struct #[m0, m1, m2])
  hI : P.underlying I = some (.struct #[i0, i1, i2, i3])
  hA : P.underlying A = some (.struct #[a0, a1, a2])
  fm0 : zcA P m0 0 1 (.int .u32)
  fm1 : zcA P m1 1 1 (.int .u32)
  fm2 : zcA P m2 2 1 (.slice I)
  fi0 : zcA P i0 0 1 (.int .u16)
  fi1 : zcA P i1 1 1 (.int .u32)
  fi2 : zcA P i2 2 1 (.int .u32)
  fi3 : zcA P i3 3 1 (.slice A)
  fa0 : zcA P a0 0 1 (.int .u8)
  fa1 : zcA P a1 1 1 (.int .u32)
  fa2 : zcA P a2 2 1 .string
  cM : P.cellsOf M = 3
  cI : P.cellsOf I = 4
  cA : P.cellsOf A = 3
  bI : P.bytesOf I = 40
  bA : P.bytesOf A = 24
section
variable {H : Type} {enc : TypeId × Value → H} {P : Program} {w : World} {base : Nat} {spare : Nat → Bool} {held : Bool} {M I A : TypeId}
theorem ze9 {t : TypeId} {f0 f1 f2 : Field} {fuel : Nat} {cs : List Value} {x : DataW H × List MemPlace} (ht : P.underlying t = some (.struct #[f0, f1, f2])) (h : DataW.trod enc P w base spare held fuel t cs = some x) :
    ∃ y0 y1 y2 n, x.1 = .agg [y0.1, y1.1, y2.1] ∧ cs.length = P.cellsOf t ∧ DataW.trod enc P w base spare held n f0.type ((cs.drop f0.offset).take (P.cellsOf f0.type)) = some y0 ∧
      DataW.trod enc P w base spare held n f1.type ((cs.drop f1.offset).take (P.cellsOf f1.type)) = some y1 ∧ DataW.trod enc P w base spare held n f2.type ((cs.drop f2.offset).take (P.cellsOf f2.type)) = some y2 := by
  obtain ⟨xs, n, _, rfl, hl, hlen, hf⟩ := DataW.trod_struct ht h
  match xs, hlen with
  | [y0, y1, y2], _ => exact ⟨y0, y1, y2, n, rfl, hl, by simpa using hf 0 f0 rfl, by simpa using hf 1 f1 rfl, by simpa using hf 2 f2 rfl⟩
theorem zh0 {t : TypeId} {f0 f1 f2 f3 : Field} {fuel : Nat} {cs : List Value} {x : DataW H × List MemPlace} (ht : P.underlying t = some (.struct #[f0, f1, f2, f3])) (h : DataW.trod enc P w base spare held fuel t cs = some x) :
    ∃ y0 y1 y2 y3 n, x.1 = .agg [y0.1, y1.1, y2.1, y3.1] ∧ cs.length = P.cellsOf t ∧ DataW.trod enc P w base spare held n f0.type ((cs.drop f0.offset).take (P.cellsOf f0.type)) = some y0 ∧
      DataW.trod enc P w base spare held n f1.type ((cs.drop f1.offset).take (P.cellsOf f1.type)) = some y1 ∧ DataW.trod enc P w base spare held n f2.type ((cs.drop f2.offset).take (P.cellsOf f2.type)) = some y2 ∧
      DataW.trod enc P w base spare held n f3.type ((cs.drop f3.offset).take (P.cellsOf f3.type)) = some y3 := by
  obtain ⟨xs, n, _, rfl, hl, hlen, hf⟩ := DataW.trod_struct ht h
  match xs, hlen with
  | [y0, y1, y2, y3], _ => exact ⟨y0, y1, y2, y3, n, rfl, hl, by simpa using hf 0 f0 rfl, by simpa using hf 1 f1 rfl, by simpa using hf 2 f2 rfl, by simpa using hf 3 f3 rfl⟩
theorem list3 {α : Type} {l : List α} (h : l.length = 3) : ∃ a b c, l = [a, b, c] := by
  match l, h with
  | [a, b, c], _ => exact ⟨a, b, c, rfl⟩
theorem list4 {α : Type} {l : List α} (h : l.length = 4) : ∃ a b c d, l = [a, b, c, d] := by
  match l, h with
  | [a, b, c, d], _ => exact ⟨a, b, c, d, rfl⟩
theorem wf_u8 {n : Int} (h : (Lit.int .u8 n).wf = true) : 0 ≤ n ∧ n ≤ 255 := by
  simpa [Lit.wf, IntKind.min, IntKind.max, IntKind.signed, IntKind.bits] using h
theorem wf_u16 {n : Int} (h : (Lit.int .u16 n).wf = true) : 0 ≤ n ∧ n ≤ 65535 := by
  simpa [Lit.wf, IntKind.min, IntKind.max, IntKind.signed, IntKind.bits] using h
theorem zhY {n : Int} (h : (Lit.int .u32 n).wf = true) : 0 ≤ n ∧ n ≤ 4294967295 := by
  simpa [Lit.wf, IntKind.min, IntKind.max, IntKind.signed, IntKind.bits] using h
def ArgP.good (a : ArgP) : Prop := (0 ≤ a.kind ∧ a.kind ≤ 255) ∧ (0 ≤ a.n ∧ a.n ≤ 4294967295)
def relA {H : Type} (a : ArgP) (d : DataW H) : Prop := d = .agg [.lit (.int .u8 a.kind), .lit (.int .u32 a.n), .lit (.string a.s)]
def relL {H : Type} {α : Type} (r : α → DataW H → Prop) (l : List α) (d : DataW H) : Prop := (d = .nil ∧ l = []) ∨ ∃ elems sp, d = .slice elems sp ∧ elems.length = l.length ∧ ∀ (i : Nat) (a : α) (y : DataW H), l[i]? = some a → elems[i]? = some y → r a y
theorem zm8 (T : MdTys P M I A) : ∀ fuel cs (y : DataW H × List MemPlace), DataW.trod enc P w base spare held fuel A cs = some y → ∃ a : ArgP, cs = zhM a ∧ a.good ∧ relA a y.1 := fun fuel cs y h => by
  obtain ⟨y0, y1, y2, n, hy, hl, h0, h1, h2⟩ := ze9 T.hA h
  rw [T.cA] at hl
  obtain ⟨c0, c1, c2, rfl⟩ := list3 hl
  rw [T.fa0.1, T.fa0.2.1] at h0
  rw [T.fa1.1, T.fa1.2.1] at h1
  rw [T.fa2.1, T.fa2.2.1] at h2
  obtain ⟨k, e0, rfl, w0⟩ := DataW.trod_int T.fa0.2.2 h0
  obtain ⟨m, e1, rfl, w1⟩ := DataW.trod_int T.fa1.2.2 h1
  obtain ⟨s, e2, rfl, w2⟩ := DataW.trod_string T.fa2.2.2 h2
  simp only [List.drop_zero, List.drop_succ_cons, List.take_succ_cons, List.take_zero, List.cons.injEq, and_true] at e0 e1 e2
  subst e0; subst e1; subst e2
  exact ⟨⟨k, m, s.data.toList⟩, by rw [zhM, str_of s], ⟨wf_u8 w0, zhY w1⟩, hy⟩
def InstP.good (w : World) (i : InstP) : Prop := (0 ≤ i.op ∧ i.op ≤ 65535) ∧ (0 ≤ i.ty ∧ i.ty ≤ 4294967295) ∧ (0 ≤ i.res ∧ i.res ≤ 4294967295) ∧ (∀ a ∈ i.args, a.good) ∧ (Res.rargs i).holds w
def relI {H : Type} (i : InstP) (d : DataW H) : Prop := ∃ da, d = .agg [.lit (.int .u16 i.op), .lit (.int .u32 i.ty), .lit (.int .u32 i.res), da] ∧ relL relA i.args da
theorem zea {t e : TypeId} {c : Value} {n : Nat} {y : DataW H × List MemPlace} (ht : P.underlying t = some (.slice e)) (h : DataW.trod enc P w base spare held n t [c] = some y) : c.cells.toList = [c] := by
  cases n with
  | zero => simp [DataW.trod] at h
  | succ n =>
    unfold DataW.trod at h
    rw [ht] at h
    split at h <;> simp_all
    all_goals first | rfl | (subst_vars; rfl) | skip
theorem zlz (T : MdTys P M I A) : ∀ fuel cs (y : DataW H × List MemPlace), DataW.trod enc P w base spare held fuel I cs = some y → ∃ i : InstP, cs = zdF i ∧ i.good w ∧ relI i y.1 := fun fuel cs y h => by
  obtain ⟨y0, y1, y2, y3, n, hy, hl, h0, h1, h2, h3⟩ := zh0 T.hI h
  rw [T.cI] at hl
  obtain ⟨c0, c1, c2, c3, rfl⟩ := list4 hl
  rw [T.fi0.1, T.fi0.2.1] at h0
  rw [T.fi1.1, T.fi1.2.1] at h1
  rw [T.fi2.1, T.fi2.2.1] at h2
  rw [T.fi3.1, T.fi3.2.1] at h3
  obtain ⟨o, e0, rfl, w0⟩ := DataW.trod_int T.fi0.2.2 h0
  obtain ⟨t, e1, rfl, w1⟩ := DataW.trod_int T.fi1.2.2 h1
  obtain ⟨r, e2, rfl, w2⟩ := DataW.trod_int T.fi2.2.2 h2
  simp only [List.drop_zero, List.drop_succ_cons, List.take_succ_cons, List.take_zero, List.cons.injEq, and_true] at e0 e1 e2 h3
  subst e0; subst e1; subst e2
  obtain ⟨ao, cap, l, rfl, hb, hg, hR, hr⟩ := zil (g := zhM) (good := ArgP.good) (rel := relA) (es := 3) T.fi3.2.2 T.cA (by decide) zcu (zm8 T) (v := c3) (d := y3.1) (p := y3.2) ⟨n, (by rw [zea T.fi3.2.2 h3]; exact h3)⟩ (zea T.fi3.2.2 h3)
  exact ⟨⟨o, t, r, ao, cap, l⟩, rfl, ⟨wf_u16 w0, zhY w1, zhY w2, hg, hR⟩, ⟨y3.1, hy, hr⟩⟩
theorem open_mod (T : MdTys P M I A) {v : Value} {d : DataW H} {p : List MemPlace} (h : DataW.Trod enc P w base spare held M v d p) (hv : ∃ cs : List Value, v = .agg cs.toArray) :
    ∃ (ga ba : Int) (ao : Option Addr) (cap : Nat) (l : List InstP), v = .agg #[.int .u32 ga, .int .u32 ba, .slice ao l.length cap] ∧ (0 ≤ ga ∧ ga ≤ 4294967295) ∧ (0 ≤ ba ∧ ba ≤ 4294967295) ∧ (∀ i ∈ l, i.good w) ∧ (Res.rmod ao l).holds w ∧
      ∃ dm, d = .agg [.lit (.int .u32 ga), .lit (.int .u32 ba), dm] ∧ relL relI l dm := by
  obtain ⟨fuel, h⟩ := h
  obtain ⟨cs, rfl⟩ := hv
  replace h : DataW.trod enc P w base spare held fuel M cs = some (d, p) := h
  obtain ⟨y0, y1, y2, n, hy, hl, h0, h1, h2⟩ := ze9 T.hM h
  rw [T.cM] at hl
  obtain ⟨c0, c1, c2, rfl⟩ := list3 hl
  rw [T.fm0.1, T.fm0.2.1] at h0
  rw [T.fm1.1, T.fm1.2.1] at h1
  rw [T.fm2.1, T.fm2.2.1] at h2
  obtain ⟨ga, e0, rfl, w0⟩ := DataW.trod_int T.fm0.2.2 h0
  obtain ⟨ba, e1, rfl, w1⟩ := DataW.trod_int T.fm1.2.2 h1
  simp only [List.drop_zero, List.drop_succ_cons, List.take_succ_cons, List.take_zero, List.cons.injEq, and_true] at e0 e1 h2
  subst e0; subst e1
  obtain ⟨ao, cap, l, rfl, hb, hg, hR, hr⟩ := zil (g := zdF) (good := InstP.good w) (rel := relI) (es := 4) T.fm2.2.2 T.cI (by decide) zci (zlz T) (v := c2) (d := y2.1) (p := y2.2) ⟨n, (by rw [zea T.fm2.2.2 h2]; exact h2)⟩ (zea T.fm2.2.2 h2)
  refine ⟨ga, ba, ao, cap, l, rfl, zhY w0, zhY w1, hg, fun r hr => ?_, y2.1, hy, hr⟩
  cases hr with
  | head => exact hR
  | tail _ hr =>
    obtain ⟨i, hi, rfl⟩ := List.mem_map.1 hr
    exact (hg i hi).2.2.2.2
end
end Go.SK
namespace Go.SK
theorem zdN {fm : FormL} {b : Int} {k : Nat} {a : ArgP} {l : List ArgP} (h : za6 fm b k (a :: l) = 0) : za2 (zav fm k) a b = 0 ∧ za6 fm b (k + 1) l = 0 := by
  rw [za6] at h
  split at h
  · rename_i h1; exact absurd h h1
  · rename_i h1; exact ⟨Nn h1, h⟩
theorem zfy {must : Bool} {n b e : Int} (he : e ≠ 0) (h : idH must n b e = 0) : (must = true → n ≠ 0 ∧ n < b) ∧ (must = false → n = 0) := by
  unfold idH at h
  split at h
  · exact absurd h he
  · rename_i h1
    have h1 := Nn h1
    split at h
    · cases h
    · rename_i h2
      refine ⟨fun hm => ?_, fun hm => ?_⟩
      · subst hm
        have hn : n ≠ 0 := of_decide_eq_true h1.symm
        exact ⟨hn, by have : ¬ n ≥ b := fun hx => h2 ⟨rfl, hx⟩; omega⟩
      · subst hm
        exact Nn (of_decide_eq_false h1.symm)
end Go.SK
namespace Go.SK
open Go.RowKit Go.ChangeShapes Go.WideShapes Go.ChangeAt
structure BulkOk {H : Type} (f : DataW H → Nat) (fa : List (DataW H) → Nat) : Prop where
  str : ∀ b, b.length + 1 ≤ f (.lit (.string b))
  one : ∀ d, 1 ≤ f d
  agg : ∀ l, fa l + 1 ≤ f (.agg l)
  slice : ∀ l sp, fa l + 1 ≤ f (.slice l sp)
  cons : ∀ d r, fa (d :: r) = f d + fa r
section
variable {H : Type} {f : DataW H → Nat} {fa : List (DataW H) → Nat}
theorem zkW (h : BulkOk f fa) {α : Type} {r : α → DataW H → Prop} {g : α → Nat} (hg : ∀ a y, r a y → g a ≤ f y) : ∀ (l : List α) (elems : List (DataW H)), elems.length = l.length → (∀ (i : Nat) (a : α) (y : DataW H), l[i]? = some a → elems[i]? = some y → r a y) → (l.map g).sum ≤ fa elems
  | [], elems, _, _ => Nat.zero_le _
  | a :: l, [], hl, _ => by simp at hl
  | a :: l, y :: elems, hl, hr => by
    have h1 := hg a y (hr 0 a y rfl rfl)
    have h2 := zkW h hg l elems (by simpa using hl) (fun i b z hb hz => hr (i + 1) b z (by simpa using hb) (by simpa using hz))
    rw [h.cons, List.map_cons, List.sum_cons]
    omega
theorem zev (h : BulkOk f fa) {α : Type} {r : α → DataW H → Prop} {g : α → Nat} (hg : ∀ a y, r a y → g a ≤ f y) {l : List α} {d : DataW H} (hr : relL r l d) : (l.map g).sum ≤ f d := by
  rcases hr with ⟨rfl, rfl⟩ | ⟨elems, sp, rfl, hl, hr⟩
  · exact Nat.zero_le _
  · have := zkW h hg l elems hl hr
    have := h.slice elems sp
    omega
theorem zjw {α : Type} {g : α → Nat} {l : List α} {a : α} (h : a ∈ l) : g a ≤ (l.map g).sum := by
  induction l with
  | nil => cases h
  | cons x l ih =>
    simp only [List.map_cons, List.sum_cons]
    cases h with
    | head => omega
    | tail _ h => have := ih h; omega
theorem zqk {α : Type} (l : List α) : (l.map fun _ => 1).sum = l.length := by
  induction l with
  | nil => rfl
  | cons x l ih => simp only [List.map_cons, List.sum_cons, List.length_cons, ih]; omega
theorem zkX (h : BulkOk f fa) : ∀ (a : ArgP) (y : DataW H), relA a y → zaD a ≤ f y ∧ a.s.length ≤ f y := fun a y hr => by
  obtain rfl := hr
  have h1 := h.agg [.lit (.int .u8 a.kind), .lit (.int .u32 a.n), .lit (.string a.s)]
  rw [h.cons, h.cons, h.cons] at h1
  have h2 := h.str a.s
  have h3 := h.one (.lit (.int .u8 a.kind))
  unfold zaD
  constructor
  · split <;> omega
  · omega
structure InstP.Tiny (i : InstP) : Prop where
  sum : (i.args.map zaD).sum ≤ 1048576
  txt : ∀ a ∈ i.args, a.s.length ≤ 1048576
theorem zgZ (h : BulkOk f fa) : ∀ (i : InstP) (d : DataW H), relI i d → (i.args.map zaD).sum ≤ f d ∧ (i.args.map fun a => a.s.length).sum ≤ f d := fun i d hr => by
  obtain ⟨da, rfl, hra⟩ := hr
  have h1 := zev h (fun a y hy => (zkX h a y hy).1) hra
  have h2 := zev h (g := fun a : ArgP => a.s.length) (fun a y hy => (zkX h a y hy).2) hra
  have h3 := h.agg [.lit (.int .u16 i.op), .lit (.int .u32 i.ty), .lit (.int .u32 i.res), da]
  rw [h.cons, h.cons, h.cons, h.cons] at h3
  omega
theorem bulk_mod (h : BulkOk f fa) {ga ba : Int} {l : List InstP} {d : DataW H} (hr : ∃ dm, d = .agg [.lit (.int .u32 ga), .lit (.int .u32 ba), dm] ∧ relL relI l dm) (hk : f d ≤ 1048576) : l.length ≤ 1048576 ∧ ∀ i ∈ l, i.Tiny := by
  obtain ⟨dm, rfl, hr⟩ := hr
  have h0 := h.agg [.lit (.int .u32 ga), .lit (.int .u32 ba), dm]
  rw [h.cons, h.cons, h.cons] at h0
  have h1 := zev h (g := fun _ : InstP => 1) (fun i y _ => h.one y) hr
  have h2 := zev h (g := fun i : InstP => (i.args.map zaD).sum) (fun i y hy => (zgZ h i y hy).1) hr
  have h3 := zev h (g := fun i : InstP => (i.args.map fun a => a.s.length).sum) (fun i y hy => (zgZ h i y hy).2) hr
  rw [zqk] at h1
  refine ⟨by omega, fun i hi => ⟨?_, fun a ha => ?_⟩⟩
  · have := zjw (g := fun i : InstP => (i.args.map zaD).sum) hi; omega
  · have := zjw (g := fun i : InstP => (i.args.map fun a => a.s.length).sum) hi
    have := zjw (g := fun a : ArgP => a.s.length) ha
    omega
end
theorem good_okay {w : World} {i : InstP} (h : i.good w) : i.L.Okay := by
  obtain ⟨h1, h2, h3, h4, _⟩ := h
  refine ⟨⟨h1.1, by show i.op < _; omega⟩, ⟨h2.1, by show i.ty < _; omega⟩, ⟨h3.1, by show i.res < _; omega⟩, fun a ha => ?_⟩
  have := h4 a ha
  obtain ⟨g1, g2⟩ := this
  exact ⟨⟨g2.1, by omega⟩, g1.1, by omega⟩
theorem zq5 {w : World} {l : List InstP} (h : l.length ≤ 1048576 ∧ ∀ i ∈ l, i.Tiny) (hg : ∀ i ∈ l, i.good w) : Small l :=
  ⟨by omega, fun i hi => (hg i hi).1.1, fun i hi => by have := (hg i hi).1.2; omega, fun i hi => by have := (h.2 i hi).sum; omega, fun i hi a ha => by have := (h.2 i hi).txt a ha; omega⟩
theorem InstP.Tiny.args {i : InstP} (h : i.Tiny) : i.args.length ≤ 1048576 := Nat.le_trans (zeU _) h.sum
end Go.SK
namespace Go.SK
def zoQ (s : Tx) (a : Nat) : Option (Tx × Nat) := quoN (s.length - a) (s.drop a)
def quoP (o : Option (Tx × Nat)) : Tx × Nat := match o with
  | some (t, m) => (t, m + 1)
  | none => ([], 0)
end Go.SK
namespace Go.SK
open Go.RowKit
section
variable {P : Program} {ty : TypeId} {ρ : Operand → Value} {w : World} {C : Value → World → Prop} {T T2 : TypeId}
theorem zpM {x y : Operand} {k : IntKind} {a b : Int} {m1 m2 : Nat} {c : Int} (hx : ρ x = .int k a) (hy : ρ y = .int k b) (ha : a = (m1 : Int)) (hb : b = (m2 : Int)) (h1 : m1 < 2 ^ k.bits) (h2 : m2 < 2 ^ k.bits) (hc : ((m1 &&& m2 : Nat) : Int) = c) (hw : k.wrap c = c) (h : C (.int k c) w) : Op1 P (.binOp .and T x y T2) ty ρ w C := by
  refine zla (v := .int k c) hx hy rfl ?_ h
  subst ha; subst hb; subst hc
  have e1 : (BitVec.ofInt k.bits (m1 : Int)).toNat = m1 := by
    rw [BitVec.toNat_ofInt]; rw [← Int.natCast_emod, Int.toNat_natCast]; exact Nat.mod_eq_of_lt h1
  have e2 : (BitVec.ofInt k.bits (m2 : Int)).toNat = m2 := by
    rw [BitVec.toNat_ofInt]; rw [← Int.natCast_emod, Int.toNat_natCast]; exact Nat.mod_eq_of_lt h2
  simp only [Op.intBits, BitVec.toNat_and, e1, e2, hw]
  rfl
theorem zjj {x y : Operand} {a : Int} {m : Nat} (hx : ρ x = .int .u8 a) (hy : ρ y = .int .u8 15) (ha : a = (m : Int)) (hm : m < 256) (h : C (.int .u8 ((m % 16 : Nat) : Int)) w) : Op1 P (.binOp .and T x y T2) ty ρ w C := by
  have e : m &&& 15 = m % 16 := Nat.and_two_pow_sub_one_eq_mod m 4
  exact zpM (m1 := m) (m2 := 15) hx hy ha rfl hm (by decide) (by rw [e]) (zmt (by omega) (by omega)) h
end
def qb (s : Tx) (i : Nat) : Tx := 34 :: (s.take i).flatMap zfu
theorem zfR {s : Tx} {i : Nat} {x : Tx} (h : i < s.length) (hx : zfu (s.getD i 0) = x) : qb s (i + 1) = qb s i ++ x := by
  unfold qb
  have : s.take (i + 1) = s.take i ++ [s.getD i 0] := by
    rw [List.take_add_one]; simp [List.getD, h]
  rw [this, List.flatMap_append, List.flatMap_cons, List.flatMap_nil, List.append_nil, hx, List.cons_append]
theorem zkE (c : UInt8) : 1 ≤ (zfu c).length ∧ (zfu c).length ≤ 4 := by
  unfold zfu; split
  · simp
  · split <;> simp
theorem zpW (s : Tx) (i : Nat) : (qb s i).length ≤ 1 + 4 * i := by
  unfold qb
  have : ∀ l : Tx, (l.flatMap zfu).length ≤ 4 * l.length := fun l => by
    induction l with
    | nil => simp
    | cons c r ih => rw [List.flatMap_cons, List.length_append, List.length_cons]; have := (zkE c).2; omega
  have h2 := this (s.take i)
  rw [List.length_cons]; have := List.length_take_le i s; omega
theorem zm0 {s : Tx} {i : Nat} (h : s.length ≤ i) : qb s i ++ [34] = zcf s := by
  unfold qb zcf; rw [List.take_of_length_le h, List.cons_append]
theorem zfs {c : UInt8} (h : c.toNat < 32 ∨ 126 < c.toNat) : zfu c = [92, 120, zhv (c.toNat / 16), zhv (c.toNat % 16)] := by unfold zfu; rw [if_pos h]
theorem zft {c : UInt8} (h : ¬ (c.toNat < 32 ∨ 126 < c.toNat)) (h2 : c.toNat = 34 ∨ c.toNat = 92) : zfu c = [92, c] := by unfold zfu; rw [if_neg h, if_pos h2]
theorem zho {c : UInt8} (h : ¬ (c.toNat < 32 ∨ 126 < c.toNat)) (h2 : ¬ (c.toNat = 34 ∨ c.toNat = 92)) : zfu c = [c] := by unfold zfu; rw [if_neg h, if_neg h2]
theorem zhu : ∀ n < 16, ([48, 49, 50, 51, 52, 53, 54, 55, 56, 57, 97, 98, 99, 100, 101, 102] : Tx).getD n 0 = zhv n := by decide
theorem zij (s : Tx) : (zcf s).length ≤ 2 + 4 * s.length := by
  rw [← zm0 (Nat.le_refl s.length), List.length_append]; have := zpW s s.length; simp; omega
end Go.SK
namespace Go.SK
theorem f_no {b : Bool} (h : b = false) : ¬ b = true := by rw [h]; decide
theorem zdo (s : Tx) (a : Nat) : (s.drop a).getD 0 0 = s.getD a 0 := by rw [zeo]; rfl
theorem zqO (s : Tx) (a : Nat) : (s.drop a).drop 1 = s.drop (a + 1) := List.drop_drop
theorem ziw {c : UInt8} {n : Nat} (h : zeE c = true) (hn : n < 65) : c.toNat ≠ n := by
  unfold zeE at h; simp only [decide_eq_true_eq] at h; omega
section
variable {s : Tx} {a : Nat}
theorem zos (h : zeE (s.getD a 0) = true) : zjr (s.drop a) = .ok (1, zbY (s.drop a), (zbY (s.drop a)).length) := by
  unfold zjr; dsimp only; rw [zdo, if_pos h]
theorem tok_id (h : (s.getD a 0).toNat = 37) : zjr (s.drop a) = if (zaT (zbY (s.drop (a + 1)))).isSome = true then .ok (2, zbY (s.drop (a + 1)), (zbY (s.drop (a + 1))).length + 1) else .error 62 := by
  unfold zjr; dsimp only; rw [zdo, zqO, if_neg (fun q => ziw q (n := 37) (by omega) h), if_pos h]
theorem zqg (h : zc7 (s.getD a 0) = true ∨ (s.getD a 0).toNat = 45) : zjr (s.drop a) = if (za5 ((s.drop a).take (1 + (zbY (s.drop (a + 1))).length))).2 = 0 then .ok (3, (s.drop a).take (1 + (zbY (s.drop (a + 1))).length), ((s.drop a).take (1 + (zbY (s.drop (a + 1))).length)).length) else .error 62 := by
  have hl : ¬ zeE (s.getD a 0) = true := fun q => by
    rcases h with h | h
    · rw [znG h] at q; cases q
    · exact ziw q (n := 45) Om h
  have h37 : ¬ (s.getD a 0).toNat = 37 := by
    rcases h with h | h
    · have := zgY h; omega
    · omega
  unfold zjr; dsimp only; rw [zdo, zqO, if_neg hl, if_neg h37, if_pos h]
theorem zqr (s : Tx) (a : Nat) : quoN ((s.drop a).drop 1).length ((s.drop a).drop 1) = zoQ s (a + 1) := by
  unfold zoQ; rw [zqO, List.length_drop]
theorem zqf (h : (s.getD a 0).toNat = 34) : zjr (s.drop a) = match zoQ s (a + 1) with
    | none => .error 61
    | some (t, n) => .ok (4, t, n + 1) := by
  have hd : ¬ (zc7 (s.getD a 0) = true ∨ (s.getD a 0).toNat = 45) := fun q => by
    rcases q with q | q
    · have := zgY q; omega
    · omega
  unfold zjr; dsimp only; rw [zdo, if_neg (fun q => ziw q (n := 34) (by omega) h), if_neg (by omega), if_neg hd, if_pos h, zqr] <;> rfl
theorem tok_eq (h : (s.getD a 0).toNat = 61) : zjr (s.drop a) = .ok (5, [61], 1) := by
  have hd : ¬ (zc7 (s.getD a 0) = true ∨ (s.getD a 0).toNat = 45) := fun q => by
    rcases q with q | q
    · have := zgY q; omega
    · omega
  unfold zjr; dsimp only; rw [zdo, if_neg (fun q => ziw q (n := 61) (by omega) h), if_neg (by omega), if_neg hd, if_neg (by omega), if_pos h]
theorem zot (h : (s.getD a 0).toNat = 37) (hp : (zaT (zbY (s.drop (a + 1)))).isSome = true) : zjr (s.drop a) = .ok (2, zbY (s.drop (a + 1)), (zbY (s.drop (a + 1))).length + 1) := by rw [tok_id h, if_pos hp]
theorem zmJ {t : Tx} (h : zc7 (s.getD a 0) = true ∨ (s.getD a 0).toNat = 45) (ht : (s.drop a).take (1 + (zbY (s.drop (a + 1))).length) = t) (hp : (za5 t).2 = 0) : zjr (s.drop a) = .ok (3, t, t.length) := by rw [zqg h, ht, if_pos hp]
theorem zmI (h : (s.getD a 0).toNat = 34) (hq : ¬ (quoP (zoQ s (a + 1))).2 = 0) : zjr (s.drop a) = .ok (4, (quoP (zoQ s (a + 1))).1, (quoP (zoQ s (a + 1))).2) := by
  rw [zqf h]
  cases e : zoQ s (a + 1) with
  | none => rw [e] at hq; exact absurd rfl hq
  | some q => rfl
end
def zfa (t : TokL) : List Value := [.int .u8 t.kind, str t.text, .int .i64 t.at_]
theorem zkw (t : TokL) : (zfa t).length = 3 := rfl
def zaS : TokL := ⟨0, [], 0⟩
end Go.SK
namespace Go.SK
section
variable {t : TokL}
theorem zpR (h : t.kind = 1) (h0 : t.text ≠ []) (h1 : zeE (t.text.getD 0 0) = true) (h2 : zbY t.text = t.text) : wrT t = some t.text := by
  have hl : 0 < t.text.length := List.length_pos_iff.2 h0
  unfold wrT; rw [if_pos h, if_pos ⟨hl, h1, h2⟩]
theorem zmA (h : t.kind = 1) (hq : ¬ (t.text ≠ [] ∧ zeE (t.text.getD 0 0) = true ∧ zbY t.text = t.text)) : wrT t = none := by
  unfold wrT; rw [if_pos h, if_neg (fun q => hq ⟨List.length_pos_iff.1 q.1, q.2⟩)]
theorem zpQ (h : t.kind = 2) (h1 : (zaT t.text).isSome = true) : wrT t = some (37 :: t.text) := by
  unfold wrT; rw [if_neg (by omega), if_pos h, if_pos h1]
theorem wr2_no (h : t.kind = 2) (h1 : ¬ (zaT t.text).isSome = true) : wrT t = none := by
  unfold wrT; rw [if_neg (by omega), if_pos h, if_neg h1]
theorem zpP (h : t.kind = 3) (h1 : (za5 t.text).2 = 0) : wrT t = some t.text := by
  unfold wrT; rw [if_neg (by omega), if_neg (by omega), if_pos h, if_pos h1]
theorem wr3_no (h : t.kind = 3) (h1 : ¬ (za5 t.text).2 = 0) : wrT t = none := by
  unfold wrT; rw [if_neg (by omega), if_neg (by omega), if_pos h, if_neg h1]
theorem zmz (h : t.kind = 4) : wrT t = some (zcf t.text) := by
  unfold wrT; rw [if_neg (by omega), if_neg (by omega), if_neg (by omega), if_pos h]
theorem zhW (h : t.kind = 5) (h1 : t.text = [61]) : wrT t = some [61] := by
  unfold wrT; rw [if_neg (by omega), if_neg (by omega), if_neg (by omega), if_neg (by omega), if_pos h, if_pos h1]
theorem wr5_no (h : t.kind = 5) (h1 : ¬ t.text = [61]) : wrT t = none := by
  unfold wrT; rw [if_neg (by omega), if_neg (by omega), if_neg (by omega), if_neg (by omega), if_pos h, if_neg h1]
theorem wr_no (h1 : ¬ t.kind = 1) (h2 : ¬ t.kind = 2) (h3 : ¬ t.kind = 3) (h4 : ¬ t.kind = 4) (h5 : ¬ t.kind = 5) : wrT t = none := by
  unfold wrT; rw [if_neg h1, if_neg h2, if_neg h3, if_neg h4, if_neg h5]
theorem zpN {x : Tx} (h : wrT t = some x) : x.length + 1 ≤ 4 * t.text.length + 3 := by
  unfold wrT at h
  split at h
  · split at h
    · cases h; omega
    · cases h
  split at h
  · split at h
    · cases h; simp only [List.length_cons]; omega
    · cases h
  split at h
  · split at h
    · cases h; omega
    · cases h
  split at h
  · cases h; have := zij t.text; omega
  split at h
  · split at h
    · cases h; simp only [List.length_cons, List.length_nil]; omega
    · cases h
  · cases h
end
def wrL : List TokL → Option (List Tx)
  | [] => some []
  | t :: r => (wrT t).bind fun a => (wrL r).map fun b => a :: b
def wsz : List TokL → Nat
  | [] => 0
  | t :: r => 4 * t.text.length + 3 + wsz r
def osz : List Tx → Nat
  | [] => 0
  | x :: r => x.length + 1 + osz r
theorem zqs (a b : List Tx) : osz (a ++ b) = osz a + osz b := by
  induction a with
  | nil => simp [osz]
  | cons x r ih => rw [List.cons_append, osz, osz, ih]; omega
theorem join_cons (x y : Tx) (r : List Tx) : Lib.join (x :: y :: r) [32] = x ++ 32 :: Lib.join (y :: r) [32] := by
  unfold Lib.join; rw [List.intercalate_cons_cons]; simp
theorem zen (x : Tx) : Lib.join [x] [32] = x := Lib.join_one x [32]
theorem znl : Lib.join ([] : List Tx) [32] = [] := rfl
theorem zkN : ∀ l : List Tx, (Lib.join l [32]).length ≤ osz l
  | [] => Nat.zero_le _
  | [x] => by rw [zen, osz, osz]; omega
  | x :: y :: r => by
    have := zkN (y :: r)
    rw [join_cons, osz, List.length_append, List.length_cons]; omega
theorem zkq : ∀ l : List TokL, wrR l = (wrL l).map fun x => x.flatMap fun a => 32 :: a
  | [] => rfl
  | t :: r => by
    rw [wrR, wrL]
    cases wrT t with
    | none => rfl
    | some a =>
      simp only [Option.bind_some]
      rw [zkq r]
      cases wrL r with
      | none => rfl
      | some b => simp
theorem zhb (l : List TokL) : wrF l = (wrL l).map fun x => Lib.join x [32] := by
  cases l with
  | nil => rfl
  | cons t r =>
    rw [wrF, wrL, zkq]
    cases wrT t with
    | none => rfl
    | some a =>
      simp only [Option.bind_some]
      cases wrL r with
      | none => rfl
      | some b =>
        simp only [Option.map_some]; congr 1
        have : ∀ (b : List Tx) (a : Tx), a ++ (b.flatMap fun x => 32 :: x) = Lib.join (a :: b) [32] := fun b => by
          induction b with
          | nil => intro a; rw [zen]; simp
          | cons c q ih => intro a; rw [join_cons, ← ih c]; simp
        exact this b a
def wrI (l : List TokL) (i : Nat) (o : List Tx) : Prop := i ≤ l.length ∧ o.length = i ∧ osz o + wsz (l.drop i) ≤ wsz l ∧ wrL l = (wrL (l.drop i)).map (o ++ ·)
theorem zmy (l : List TokL) : wrI l 0 [] := by
  refine ⟨Nat.zero_le _, rfl, by simp [osz], ?_⟩
  rw [List.drop_zero]; cases wrL l <;> simp
theorem zeu {l : List TokL} {i : Nat} (h : i < l.length) : l.drop i = l.getD i zaS :: l.drop (i + 1) := by
  rw [List.drop_eq_getElem_cons h]; simp [List.getD, h]
theorem zg9 {l : List TokL} {i : Nat} (h : i < l.length) : 4 * (l.getD i zaS).text.length + 3 + wsz (l.drop (i + 1)) = wsz (l.drop i) := by
  rw [zeu h, wsz]
theorem zoj {l : List TokL} {i : Nat} {o : List Tx} (hI : wrI l i o) (h : i < l.length) : 4 * (l.getD i zaS).text.length + 3 + osz o ≤ wsz l := by
  have := zg9 h; have := hI.2.2.1; omega
theorem zon {l : List TokL} {i : Nat} {o : List Tx} {x : Tx} (hI : wrI l i o) (h : i < l.length) (hx : wrT (l.getD i zaS) = some x) : wrI l (i + 1) (o ++ [x]) := by
  refine ⟨h, by rw [List.length_append, List.length_singleton, hI.2.1], ?_, ?_⟩
  · have h1 := zg9 h; have h2 := hI.2.2.1; have h3 := zpN hx
    rw [zqs, osz, osz]; omega
  · rw [hI.2.2.2, zeu h, wrL, hx]
    cases wrL (l.drop (i + 1)) with
    | none => rfl
    | some b => simp
theorem wrI_no {l : List TokL} {i : Nat} {o : List Tx} (hI : wrI l i o) (h : i < l.length) (hx : wrT (l.getD i zaS) = none) : wrF l = none := by
  rw [zhb, hI.2.2.2, zeu h, wrL, hx]; rfl
theorem zqb {l : List TokL} {i : Nat} {o : List Tx} (hI : wrI l i o) (h : l.length ≤ i) : wrF l = some (Lib.join o [32]) := by
  rw [zhb, hI.2.2.2, List.drop_eq_nil_of_le h, wrL]; simp
end Go.SK
namespace Go.SK
abbrev strC (s : Tx) : List Value := [str s]
def wrS (l : List TokL) : Tx := (wrF l).getD []
def wrE (l : List TokL) : Int := if (wrF l).isSome = true then 0 else 2
theorem zc9 {l : List TokL} {x : Tx} (h : wrF l = some x) : wrS l = x ∧ wrE l = 0 := by unfold wrS wrE; rw [h]; exact ⟨rfl, rfl⟩
theorem zmw {l : List TokL} (h : wrF l = none) : wrS l = [] ∧ wrE l = 2 := by unfold wrS wrE; rw [h]; exact ⟨rfl, rfl⟩
end Go.SK
namespace Go.SK
theorem zfA {a b : Tx} {i : Nat} (h : i < a.length) : (a ++ b).getD i 0 = a.getD i 0 := by
  simp [List.getD, List.getElem?_append_left h]
theorem zhk {s y : Tx} (hy : y.length = 0 ∨ ¬ zhl (y.getD 0 0) = true) : zbY (s ++ y) = zbY s := by
  unfold zbY
  induction s with
  | nil =>
    cases y with
    | nil => rfl
    | cons c r =>
      have : ¬ zhl c = true := hy.resolve_left (by simp)
      rw [List.nil_append, List.takeWhile_cons, if_neg this]; rfl
  | cons c r ih =>
    rw [List.cons_append, List.takeWhile_cons, List.takeWhile_cons, ih]
theorem zfQ {s : Tx} (h : s.all zhl = true) : zbY s = s := by
  unfold zbY
  induction s with
  | nil => rfl
  | cons c r ih =>
    rw [List.all_cons, Bool.and_eq_true] at h
    rw [List.takeWhile_cons, if_pos h.1, ih h.2]
theorem zkU : ∀ (s : Tx) (a n : Nat), zbV s a = some n → s.all zc7 = true
  | [], a, n, _ => rfl
  | c :: r, a, n, h => by
    rw [zbV] at h; split at h
    · rename_i hc; rw [List.all_cons, hc, zkU r _ n h]; rfl
    · cases h
theorem zdT {s : Tx} (h : s.all zc7 = true) : s.all zhl = true := by
  rw [List.all_eq_true] at h ⊢; intro c hc; exact run_d (h c hc)
theorem zek {s : Tx} {n : Nat} (h : zaT s = some n) : 0 < s.length ∧ s.all zc7 = true := by
  by_cases hb : zkY s
  · have := (zjE hb).2; rw [h] at this; cases this
  · cases hd : zbV s 0 with
    | none => have := (zhp hb hd).2; rw [h] at this; cases this
    | some m => exact ⟨by unfold zkY at hb; omega, zkU s 0 m hd⟩
theorem zpw {p : UInt8 → Bool} {s : Tx} (n : Nat) (h : s.all p = true) : (s.drop n).all p = true := by
  rw [List.all_eq_true] at h ⊢; intro c hc; exact h c (List.mem_of_mem_drop hc)
theorem zj3 {p : UInt8 → Bool} {s : Tx} {i : Nat} (h : s.all p = true) (hi : i < s.length) : p (s.getD i 0) = true := by
  rw [List.all_eq_true] at h
  have : s.getD i 0 = s[i] := by simp [List.getD, hi]
  rw [this]; exact h _ (List.getElem_mem hi)
theorem zin {s : Tx} (h : (za5 s).2 = 0) : 0 < s.length ∧ (zc7 (s.getD 0 0) = true ∨ (s.getD 0 0).toNat = 45) ∧ zbY (s.drop 1) = s.drop 1 := by
  cases hp : zaT s with
  | some n =>
    obtain ⟨h0, ha⟩ := zek hp
    exact ⟨h0, .inl (zj3 ha h0), zfQ (zdT (zpw 1 ha))⟩
  | none =>
    by_cases hm : 1 < s.length ∧ (s.getD 0 0).toNat = 45
    · cases hq : zaT (s.drop 1) with
      | none => rw [zel hp hm (fun n hn => by rw [hq] at hn; cases hn)] at h; cases h
      | some n => exact ⟨by omega, .inr hm.2, zfQ (zdT (zek hq).2)⟩
    · by_cases hb : s.length < 3 ∨ 10 < s.length ∨ (s.getD 0 0).toNat ≠ 48 ∨ (s.getD 1 0).toNat ≠ 120
      · rw [zfv hp hm hb] at h; cases h
      · cases hx : zbO (s.drop 2) 0 with
        | none => rw [zfT hp hm hb hx] at h; cases h
        | some n =>
          refine ⟨by omega, .inl (Dt Om), ?_⟩
          have h1 := (zfz _ _ _ hx).1
          rw [zl0 (show 1 < s.length by omega)]
          have hr : zhl (s.getD 1 0) = true := by
            unfold zhl zeE; rw [Bool.or_eq_true, decide_eq_true_eq]; omega
          unfold zbY at h1 ⊢
          rw [List.takeWhile_cons, if_pos hr, h1]
theorem zkO {n : Nat} (h : n < 16) : zdQ (zhv n) = true ∧ zdH (zhv n) = n := by
  have : ∀ n < 16, zdQ (zhv n) = true ∧ zdH (zhv n) = n := by decide
  exact this n h
theorem zoU (c : UInt8) (z : Tx) : zjF (zfu c ++ z) = some (c, (zfu c).length) ∧ ((zfu c ++ z).getD 0 0).toNat ≠ 34 := by
  have hc := c.toNat_lt
  by_cases h1 : c.toNat < 32 ∨ 126 < c.toNat
  · rw [zfs h1]
    refine ⟨?_, by show (92 : UInt8).toNat ≠ 34; decide⟩
    have hh1 := zkO (n := c.toNat / 16) Om
    have hh2 := zkO (n := c.toNat % 16) Om
    have := zm7 (s := [92, 120, zhv (c.toNat / 16), zhv (c.toNat % 16)] ++ z) (a := 0) (by simp) rfl (by simp) rfl hh1.1 hh2.1
    rw [List.drop_zero] at this
    rw [this]
    have e : UInt8.ofNat (16 * zdH (zhv (c.toNat / 16)) + zdH (zhv (c.toNat % 16))) = c := by
      rw [hh1.2, hh2.2]; apply UInt8.toNat_inj.1; rw [UInt8.toNat_ofNat']; omega
    exact congrArg some (Prod.ext e rfl)
  · by_cases h2 : c.toNat = 34 ∨ c.toNat = 92
    · rw [zft h1 h2]
      refine ⟨?_, by show (92 : UInt8).toNat ≠ 34; decide⟩
      have := zoT (s := [92, c] ++ z) (a := 0) (by simp) rfl (by simp) h2
      rw [List.drop_zero] at this
      rw [this]; rfl
    · rw [zho h1 h2]
      refine ⟨?_, by show c.toNat ≠ 34; omega⟩
      have := zoV (s := [c] ++ z) (a := 0) (by simp) (by show ¬ (c.toNat < 32 ∨ 126 < c.toNat ∨ c.toNat = 34); omega) (by show c.toNat ≠ 92; omega)
      rw [List.drop_zero] at this
      rw [this]; rfl
theorem zkD (y : Tx) : ∀ (s : Tx) (n : Nat), (s.flatMap zfu ++ 34 :: y).length ≤ n → quoN n (s.flatMap zfu ++ 34 :: y) = some (s, (s.flatMap zfu).length + 1)
  | [], n, h => by
    cases n with
    | zero => simp at h
    | succ n => rw [List.flatMap_nil, List.nil_append, quoN, if_neg (by simp), if_pos (show ((34 :: y).getD 0 0).toNat = 34 from rfl)]; rfl
  | c :: r, n, h => by
    rw [List.flatMap_cons, List.append_assoc] at h ⊢
    obtain ⟨h1, h2⟩ := zoU c (r.flatMap zfu ++ 34 :: y)
    have hl := (zkE c).1
    cases n with
    | zero => rw [List.length_append] at h; omega
    | succ n =>
      rw [quoN, if_neg (by rw [List.length_append]; omega), if_neg h2, h1]
      dsimp only
      rw [List.drop_left, zkD y r n (by rw [List.length_append] at h; omega)]
      simp only [Option.map_some, List.length_append]
      congr 2
theorem zmv {t : TokL} {x y : Tx} (h : wrT t = some x) (hy : y.length = 0 ∨ (y.getD 0 0).toNat = 32) : zjr (x ++ y) = .ok (t.kind, t.text, x.length) ∧ 0 < x.length ∧ ¬ zbx (x.getD 0 0) = true ∧ ¬ (x.getD 0 0).toNat = 59 := by
  have hyr : y.length = 0 ∨ ¬ zhl (y.getD 0 0) = true := hy.imp id fun h32 => by
    unfold zhl zeE zc7; rw [Bool.or_eq_true, decide_eq_true_eq, decide_eq_true_eq]; omega
  unfold wrT at h
  split at h
  · rename_i hk
    split at h
    · rename_i hq; cases h
      have e0 : (t.text ++ y).getD 0 0 = t.text.getD 0 0 := zfA hq.1
      have := zos (s := t.text ++ y) (a := 0) (by rw [e0]; exact hq.2.1)
      rw [List.drop_zero, zhk hyr, hq.2.2] at this
      exact ⟨by rw [this, hk], hq.1, f_no (zix hq.2.1), ziw hq.2.1 (by omega)⟩
    · cases h
  split at h
  · rename_i hk
    split at h
    · rename_i hq; cases h
      obtain ⟨n, hn⟩ := zf0 hq
      have hr : zbY (((37 :: t.text) ++ y).drop (0 + 1)) = t.text := by
        show zbY (t.text ++ y) = t.text
        rw [zhk hyr, zfQ (zdT (zek hn).2)]
      have := zot (s := (37 :: t.text) ++ y) (a := 0) rfl (by rw [hr]; exact hq)
      rw [List.drop_zero, hr] at this
      exact ⟨by rw [this, hk]; rfl, by simp, by show ¬ zbx 37 = true; decide, by show ¬ (37 : UInt8).toNat = 59; decide⟩
    · cases h
  split at h
  · rename_i hk
    split at h
    · rename_i hq; cases h
      obtain ⟨h0, h1, h2⟩ := zin hq
      have e0 : (t.text ++ y).getD 0 0 = t.text.getD 0 0 := zfA h0
      have e1 : (t.text ++ y).drop (0 + 1) = t.text.drop 1 ++ y := by
        show (t.text ++ y).drop 1 = _
        rw [List.drop_append_of_le_length (by omega)]
      have e2 : ((t.text ++ y).drop 0).take (1 + (zbY ((t.text ++ y).drop (0 + 1))).length) = t.text := by
        rw [e1, zhk hyr, h2, List.drop_zero, List.length_drop, show 1 + (t.text.length - 1) = t.text.length by omega, List.take_left]
      have := zmJ (s := t.text ++ y) (a := 0) (by rw [e0]; exact h1) e2 hq
      rw [List.drop_zero] at this
      refine ⟨by rw [this, hk], h0, ?_, ?_⟩
      · rcases h1 with h1 | h1
        · exact f_no (ziT h1)
        · unfold zbx; simp only [decide_eq_true_eq]; omega
      · rcases h1 with h1 | h1
        · have := zgY h1; omega
        · omega
    · cases h
  split at h
  · rename_i hk; cases h
    have hl : (zcf t.text).length = (t.text.flatMap zfu).length + 2 := by unfold zcf; simp
    have hq : zoQ (zcf t.text ++ y) (0 + 1) = some (t.text, (t.text.flatMap zfu).length + 1) := by
      unfold zoQ
      have e : (zcf t.text ++ y).drop (0 + 1) = t.text.flatMap zfu ++ 34 :: y := by unfold zcf; simp
      rw [e]
      exact zkD y t.text _ (by rw [← e, List.length_drop]; exact Nat.le_refl _)
    have := zmI (s := zcf t.text ++ y) (a := 0) rfl (by rw [hq]; exact Nat.succ_ne_zero _)
    rw [List.drop_zero, hq] at this
    refine ⟨?_, by rw [hl]; omega, by show ¬ zbx 34 = true; decide, by show ¬ (34 : UInt8).toNat = 59; decide⟩
    rw [this, hk, hl]; rfl
  split at h
  · rename_i hk
    split at h
    · rename_i hq; cases h
      have := tok_eq (s := [61] ++ y) (a := 0) rfl
      rw [List.drop_zero] at this
      exact ⟨by rw [this, hk, hq]; rfl, by simp, by show ¬ zbx 61 = true; decide, by show ¬ (61 : UInt8).toNat = 59; decide⟩
    · cases h
  · cases h
def zif : List TokL → List Tx → Nat → List TokL
  | t :: r, x :: xs, k => ⟨t.kind, t.text, (k : Int)⟩ :: zif r xs (k + x.length + 1)
  | _, _, _ => []
theorem zde : ∀ (l : List TokL) (o : List Tx) (k : Nat), wrL l = some o → (zif l o k).length = l.length ∧ o.length = l.length
  | [], o, k, h => by cases h; exact ⟨rfl, rfl⟩
  | t :: r, o, k, h => by
    rw [wrL] at h
    cases ht : wrT t with
    | none => rw [ht] at h; cases h
    | some x =>
      rw [ht, Option.bind_some] at h
      cases hr : wrL r with
      | none => rw [hr] at h; cases h
      | some xs =>
        rw [hr] at h; cases h
        have := zde r xs (k + x.length + 1) hr
        exact ⟨by show (zif r xs _).length + 1 = _; rw [this.1]; rfl, by show xs.length + 1 = _; rw [this.2]; rfl⟩
theorem zh1 : ∀ (l : List TokL) (o : List Tx) (n k : Nat), wrL l = some o → (Lib.join o [32]).length ≤ n → zfK n (Lib.join o [32]) k = (zif l o k, (0, 0))
  | [], o, n, k, h, _ => by
    cases h
    cases n with
    | zero => rfl
    | succ n => rw [znl, zfK, if_pos (.inl rfl)]; rfl
  | t :: r, o, n, k, h, hn => by
    rw [wrL] at h
    cases ht : wrT t with
    | none => rw [ht] at h; cases h
    | some x =>
      rw [ht, Option.bind_some] at h
      cases hr : wrL r with
      | none => rw [hr] at h; cases h
      | some xs =>
        rw [hr] at h; cases h
        cases xs with
        | nil =>
          rw [zen] at hn ⊢
          obtain ⟨h1, h2, h3, h4⟩ := zmv (y := []) ht (.inl rfl)
          rw [List.append_nil] at h1
          cases n with
          | zero => omega
          | succ n =>
            rw [zfK, if_neg (by omega), if_neg h3, h1]
            dsimp only
            rw [List.drop_length]
            have : zfK n [] (k + x.length) = ([], (0, 0)) := by cases n <;> rfl
            rw [this, if_pos rfl]
            cases r with
            | nil => rfl
            | cons t2 r2 => have := (zde _ _ 0 hr).2; cases this
        | cons x2 xs2 =>
          rw [join_cons] at hn ⊢
          obtain ⟨h1, h2, h3, h4⟩ := zmv (y := 32 :: Lib.join (x2 :: xs2) [32]) ht (.inr rfl)
          have e0 : (x ++ 32 :: Lib.join (x2 :: xs2) [32]).getD 0 0 = x.getD 0 0 := zfA h2
          rw [List.length_append, List.length_cons] at hn
          cases n with
          | zero => omega
          | succ n =>
            rw [zfK, e0, if_neg (by rw [List.length_append]; omega), if_neg h3, h1]
            dsimp only
            rw [List.drop_left]
            cases n with
            | zero => omega
            | succ n =>
              have e2 : zfK (n + 1) (32 :: Lib.join (x2 :: xs2) [32]) (k + x.length) = zfK n (Lib.join (x2 :: xs2) [32]) (k + x.length + 1) := by
                rw [zfK, if_neg (show ¬ ((32 :: Lib.join (x2 :: xs2) [32]).length = 0 ∨ ((32 :: Lib.join (x2 :: xs2) [32]).getD 0 0).toNat = 59) from fun q => q.elim (fun q => by simp at q) (fun q => absurd (show (32 : UInt8).toNat = 59 from q) (by decide))), if_pos (show zbx ((32 :: Lib.join (x2 :: xs2) [32]).getD 0 0) = true from (show zbx 32 = true by decide))]; rfl
              rw [e2, zh1 r (x2 :: xs2) n (k + x.length + 1) hr (by omega), if_pos rfl]; rfl
theorem zeW {l : List TokL} {o : List Tx} (h : wrL l = some o) : zd8 (Lib.join o [32]) = (zif l o 0, (0, 0)) := zh1 l o _ 0 h (Nat.le_refl _)
theorem zie : ∀ (l : List TokL) (o : List Tx) (k i : Nat), wrL l = some o → i < l.length → (zif l o k).getD i zaS = ⟨(l.getD i zaS).kind, (l.getD i zaS).text, ((k + osz (o.take i) : Nat) : Int)⟩ ∧ wrT (l.getD i zaS) = some (o.getD i [])
  | [], o, k, i, _, hi => by simp at hi
  | t :: r, o, k, i, h, hi => by
    rw [wrL] at h
    cases ht : wrT t with
    | none => rw [ht] at h; cases h
    | some x =>
      rw [ht, Option.bind_some] at h
      cases hr : wrL r with
      | none => rw [hr] at h; cases h
      | some xs =>
        rw [hr] at h; cases h
        cases i with
        | zero => exact ⟨rfl, ht⟩
        | succ i =>
          have := zie r xs (k + x.length + 1) i hr (by simpa using hi)
          refine ⟨?_, this.2⟩
          show (zif r xs (k + x.length + 1)).getD i zaS = _
          rw [this.1]
          show (⟨_, _, _⟩ : TokL) = ⟨_, _, _⟩
          congr 1
          rw [List.take_succ_cons, osz]; omega
theorem zmZ (s : Tx) : (zcf s).all (fun c => decide (32 ≤ c.toNat ∧ c.toNat ≤ 126)) = true := by
  unfold zcf
  have h1 : ∀ c : UInt8, (zfu c).all (fun c => decide (32 ≤ c.toNat ∧ c.toNat ≤ 126)) = true := fun c => by
    have hx : ∀ n < 16, 32 ≤ (zhv n).toNat ∧ (zhv n).toNat ≤ 126 := by decide
    have hc := c.toNat_lt
    by_cases h1 : c.toNat < 32 ∨ 126 < c.toNat
    · rw [zfs h1]
      have := hx (c.toNat / 16) Om; have := hx (c.toNat % 16) Om
      simp; omega
    · by_cases h2 : c.toNat = 34 ∨ c.toNat = 92
      · rw [zft h1 h2]; simp; omega
      · rw [zho h1 h2]; simp; omega
  rw [List.all_cons, List.all_append, List.all_flatMap]
  rw [List.all_eq_true.2 (fun c _ => h1 c)]; decide
end Go.SK
namespace Go.SK
theorem zkr {l : List TokL} {o : List Tx} (h : wrL l = some o) : wrF l = some (Lib.join o [32]) := by rw [zhb, h]; rfl
theorem zkH {o : List Tx} (h : 0 < o.length) : osz o = (Lib.join o [32]).length + 1 := by
  induction o with
  | nil => simp at h
  | cons x r ih =>
    cases r with
    | nil => rw [zen]; rfl
    | cons y q =>
      have := ih (by simp)
      rw [osz, this, join_cons, List.length_append, List.length_cons]; omega
end Go.SK
namespace Go.SK
theorem zp8 {l : List TokL} {i : Nat} (h : i < l.length) : 4 * (l.getD i zaS).text.length + 3 ≤ wsz l := by
  induction l generalizing i with
  | nil => simp at h
  | cons t r ih =>
    cases i with
    | zero => show 4 * t.text.length + 3 ≤ _; rw [wsz]; omega
    | succ i =>
      have := ih (i := i) (by simpa using h)
      show 4 * (r.getD i zaS).text.length + 3 ≤ _
      rw [wsz]; omega
end Go.SK
namespace Go.SK
def zpm (r : Tx) : Tx := r.takeWhile fun c => decide (c.toNat ≠ 10)
def zoi (r : Tx) : Tx := r.drop ((zpm r).length + 1)
def lnN : Nat → Tx → List Tx
  | 0, _ => []
  | n + 1, r => if r.length = 0 then [] else zpm r :: lnN n (zoi r)
def lnF (r : Tx) : List Tx := lnN r.length r
theorem zhH (r : Tx) : (zoi r).length ≤ r.length - 1 := by unfold zoi; rw [List.length_drop]; omega
theorem zkI : ∀ (n m : Nat) (r : Tx), r.length ≤ n → r.length ≤ m → lnN n r = lnN m r
  | 0, 0, r, _, _ => rfl
  | 0, m + 1, r, h, _ => by rw [lnN, lnN, if_pos (by omega)]
  | n + 1, 0, r, _, h => by rw [lnN, lnN, if_pos (by omega)]
  | n + 1, m + 1, r, h1, h2 => by
    rw [lnN, lnN]
    split
    · rfl
    · rw [zkI n m (zoi r) (by have := zhH r; omega) (by have := zhH r; omega)]
theorem zqC {r : Tx} (h : r.length = 0) : lnF r = [] := by
  unfold lnF; rw [h]; rfl
theorem zo3 {r : Tx} (h : 0 < r.length) : lnF r = zpm r :: lnF (zoi r) := by
  unfold lnF
  rw [show r.length = (r.length - 1) + 1 by omega, lnN, if_neg (by omega), zkI (r.length - 1) (zoi r).length (zoi r) (by have := zhH r; omega) (Nat.le_refl _)]
theorem ziV (c : UInt8) (r : Tx) : zpm (c :: r) = if c.toNat = 10 then [] else c :: zpm r := by
  unfold zpm; rw [List.takeWhile_cons]
  by_cases h : c.toNat = 10
  · rw [if_pos h, if_neg (by simp [h])]
  · rw [if_neg h, if_pos (by simp [h])]
theorem zp5 : ∀ {r : Tx} {k : Nat}, k < r.length → (∀ j, j < k → (r.getD j 0).toNat ≠ 10) → (r.getD k 0).toNat = 10 → zpm r = r.take k ∧ zoi r = r.drop (k + 1)
  | [], k, h, _, _ => by simp at h
  | c :: r, 0, _, _, h => by
    have h0 : c.toNat = 10 := h
    have e : zpm (c :: r) = [] := by rw [ziV, if_pos h0]
    refine ⟨e, ?_⟩
    unfold zoi; rw [e]; rfl
  | c :: r, k + 1, hk, hn, h => by
    have h0 : c.toNat ≠ 10 := hn 0 Om
    have ih := zp5 (r := r) (k := k) (by simpa using hk) (fun j hj => hn (j + 1) (by omega)) h
    have e : zpm (c :: r) = (c :: r).take (k + 1) := by rw [ziV, if_neg h0, ih.1]; rfl
    refine ⟨e, ?_⟩
    unfold zoi; rw [e, List.length_take, Nat.min_eq_left (by omega)]
end Go.SK
namespace Go.SK
def modW : Tx := [109, 111, 100, 117, 108, 101]
def zgv (n : Int) (l : List TokL) : (Int × Int) × (Int × Int) :=
  if l.length = 0 then ((0, 0), (72, n))
  else if (l.getD 0 zaS).kind ≠ 1 ∨ (l.getD 0 zaS).text ≠ modW then ((0, 0), (70, (l.getD 0 zaS).at_))
  else if l.length = 1 then ((0, 0), (72, n))
  else if (l.getD 1 zaS).kind ≠ 3 then ((0, 0), (70, (l.getD 1 zaS).at_))
  else if (za5 (l.getD 1 zaS).text).2 ≠ 0 then ((0, 0), ((za5 (l.getD 1 zaS).text).2, (l.getD 1 zaS).at_))
  else if l.length = 2 then ((0, 0), (72, n))
  else if (l.getD 2 zaS).kind ≠ 3 then ((0, 0), (70, (l.getD 2 zaS).at_))
  else if (za5 (l.getD 2 zaS).text).2 ≠ 0 then ((0, 0), ((za5 (l.getD 2 zaS).text).2, (l.getD 2 zaS).at_))
  else if (za5 (l.getD 2 zaS).text).1 < 1 ∨ 65536 < (za5 (l.getD 2 zaS).text).1 then ((0, 0), (24, (l.getD 2 zaS).at_))
  else if 3 < l.length then ((0, 0), (70, (l.getD 3 zaS).at_))
  else (((za5 (l.getD 1 zaS).text).1, (za5 (l.getD 2 zaS).text).1), (0, 0))
def zdG (s : Tx) : (Int × Int) × (Int × Int) := if (zd8 s).2.1 ≠ 0 then ((0, 0), (zd8 s).2) else zgv s.length (zd8 s).1
section
variable {n : Int} {l : List TokL}
theorem head3 (hk : (l.getD 0 zaS).kind = 1) (ht : (l.getD 0 zaS).text = modW) (h0 : 1 < l.length) : zgv n l =
    if (l.getD 1 zaS).kind ≠ 3 then ((0, 0), (70, (l.getD 1 zaS).at_))
    else if (za5 (l.getD 1 zaS).text).2 ≠ 0 then ((0, 0), ((za5 (l.getD 1 zaS).text).2, (l.getD 1 zaS).at_))
    else if l.length = 2 then ((0, 0), (72, n))
    else if (l.getD 2 zaS).kind ≠ 3 then ((0, 0), (70, (l.getD 2 zaS).at_))
    else if (za5 (l.getD 2 zaS).text).2 ≠ 0 then ((0, 0), ((za5 (l.getD 2 zaS).text).2, (l.getD 2 zaS).at_))
    else if (za5 (l.getD 2 zaS).text).1 < 1 ∨ 65536 < (za5 (l.getD 2 zaS).text).1 then ((0, 0), (24, (l.getD 2 zaS).at_))
    else if 3 < l.length then ((0, 0), (70, (l.getD 3 zaS).at_))
    else (((za5 (l.getD 1 zaS).text).1, (za5 (l.getD 2 zaS).text).1), (0, 0)) := by
  conv => lhs; unfold zgv
  rw [if_neg (by omega), if_neg (by rintro (q | q) <;> contradiction), if_neg (by omega)]
end
def idL (t : Tx) (bound : Int) : Int := if 1 ≤ (plR t : Int) ∧ (plR t : Int) < bound then (plR t : Int) else 0
def zlQ (c : Int) : Int := if c = 105 then 2 else if c = 110 then 3 else if c = 115 then 4 else 1
def zd1 (c : Int) (t : TokL) (bound : Int) : ArgP × Int :=
  if c = 0 ∨ t.kind ≠ zlQ c then (zeroA, 70)
  else if c = 105 then (if idL t.text bound = 0 then (zeroA, 43) else (⟨1, idL t.text bound, []⟩, 0))
  else if c = 110 then (if (za5 t.text).2 ≠ 0 then (zeroA, (za5 t.text).2) else (⟨2, (za5 t.text).1, []⟩, 0))
  else if c = 115 then (if zbb t.text ≠ t.text.length then (zeroA, 13) else (⟨3, 0, t.text⟩, 0))
  else if (namesL.find? (enS c t.text)).isSome = false then (zeroA, 71)
  else (⟨4, ((namesL.find? (enS c t.text)).getD zc3).n, []⟩, 0)
def zbo (fm : FormL) (bound : Int) : Nat → List TokL → List ArgP × (Int × Int)
  | _, [] => ([], (0, 0))
  | k, t :: r =>
    if (zd1 (zav fm k) t bound).2 ≠ 0 then ([], ((zd1 (zav fm k) t bound).2, t.at_))
    else ((zd1 (zav fm k) t bound).1 :: (zbo fm bound (k + 1) r).1, (zbo fm bound (k + 1) r).2)
def zfl (l : List TokL) : Nat := if (l.getD 0 zaS).kind = 2 then 2 else 0
def zfm (n : Int) (l : List TokL) (bound : Int) (fm : FormL) : InstL × Bool × (Int × Int) :=
  if fm.res ≠ decide ((l.getD 0 zaS).kind = 2) then (zbg, false, (41, (l.getD 0 zaS).at_))
  else if (l.getD 0 zaS).kind = 2 ∧ idL (l.getD 0 zaS).text bound = 0 then (zbg, false, (43, (l.getD 0 zaS).at_))
  else if fm.ty = true ∧ l.length = zfl l + 1 then (zbg, false, (72, n))
  else if fm.ty = true ∧ (l.getD (zfl l + 1) zaS).kind ≠ 2 then (zbg, false, (70, (l.getD (zfl l + 1) zaS).at_))
  else if fm.ty = true ∧ idL (l.getD (zfl l + 1) zaS).text bound = 0 then (zbg, false, (43, (l.getD (zfl l + 1) zaS).at_))
  else if (zbo fm bound 0 (l.drop (zfl l + 1 + b2n fm.ty))).2.1 ≠ 0 then (zbg, false, (zbo fm bound 0 (l.drop (zfl l + 1 + b2n fm.ty))).2)
  else if (zdj fm.op ((zbo fm bound 0 (l.drop (zfl l + 1 + b2n fm.ty))).1.map ArgP.kind)).2 = false then (zbg, false, (72, n))
  else if zbD fm (zbo fm bound 0 (l.drop (zfl l + 1 + b2n fm.ty))).1 > 65535 then (zbg, false, (25, 0))
  else (⟨fm.op, if fm.ty = true then idL (l.getD (zfl l + 1) zaS).text bound else 0, if (l.getD 0 zaS).kind = 2 then idL (l.getD 0 zaS).text bound else 0, (zbo fm bound 0 (l.drop (zfl l + 1 + b2n fm.ty))).1⟩, true, (0, 0))
def zem (n : Int) (l : List TokL) (bound : Int) : InstL × Bool × (Int × Int) :=
  if l.length = 0 then (zbg, false, (0, 0))
  else if (l.getD 0 zaS).kind = 2 ∧ l.length = 1 then (zbg, false, (72, n))
  else if (l.getD 0 zaS).kind = 2 ∧ (l.getD 1 zaS).kind ≠ 5 then (zbg, false, (70, (l.getD 1 zaS).at_))
  else if (l.getD 0 zaS).kind = 2 ∧ l.length = 2 then (zbg, false, (72, n))
  else if (l.getD (zfl l) zaS).kind ≠ 1 then (zbg, false, (70, (l.getD (zfl l) zaS).at_))
  else if (refT.find? (nmF (l.getD (zfl l) zaS).text)).isSome = false then (zbg, false, (71, (l.getD (zfl l) zaS).at_))
  else zfm n l bound ((refT.find? (nmF (l.getD (zfl l) zaS).text)).getD zg8)
def zc5 (s : Tx) (bound : Int) : InstL × Bool × (Int × Int) := if (zd8 s).2.1 ≠ 0 then (zbg, false, (zd8 s).2) else zem s.length (zd8 s).1 bound
end Go.SK
namespace Go.SK
theorem zeG : zbb ([] : Tx) = 0 := rfl
theorem zjZ {c : Int} {t : TokL} {bound : Int} (hc : 0 ≤ c ∧ c ≤ 255) (h : (zd1 c t bound).2 = 0) : c ≠ 0 ∧ (zd1 c t bound).1.kind = zbd c ∧ za2 c (zd1 c t bound).1 bound = 0 ∧ (zd1 c t bound).1.s.length ≤ t.text.length := by
  unfold zd1 at h ⊢
  by_cases h1 : c = 0 ∨ t.kind ≠ zlQ c
  · rw [if_pos h1] at h; cases h
  rw [if_neg h1] at h ⊢
  have hc0 : c ≠ 0 := fun e => h1 (.inl e)
  by_cases h2 : c = 105
  · rw [if_pos h2] at h ⊢
    subst h2
    by_cases hi : idL t.text bound = 0
    · rw [if_pos hi] at h; cases h
    · rw [if_neg hi]
      have hb : 1 ≤ idL t.text bound ∧ idL t.text bound < bound := by
        unfold idL at hi ⊢
        split
        · assumption
        · rename_i q; rw [if_neg q] at hi; exact absurd rfl hi
      refine ⟨by decide, rfl, ?_, Nat.zero_le _⟩
      unfold za2
      rw [if_neg (by simp [zbd]), if_neg (by simp), if_neg (by simp [idE]; omega), if_neg (by simp), if_neg (by simp [zeG])]
  rw [if_neg h2] at h ⊢
  by_cases h3 : c = 110
  · rw [if_pos h3] at h ⊢
    subst h3
    by_cases hi : (za5 t.text).2 ≠ 0
    · rw [if_pos hi] at h; exact absurd h hi
    · rw [if_neg hi]
      refine ⟨by decide, rfl, ?_, Nat.zero_le _⟩
      unfold za2
      rw [if_neg (by simp [zbd]), if_neg (by simp), if_neg (by simp), if_neg (by simp), if_neg (by simp [zeG])]
  rw [if_neg h3] at h ⊢
  by_cases h4 : c = 115
  · rw [if_pos h4] at h ⊢
    subst h4
    by_cases hi : zbb t.text ≠ t.text.length
    · rw [if_pos hi] at h; cases h
    · rw [if_neg hi]
      refine ⟨by decide, rfl, ?_, Nat.le_refl _⟩
      unfold za2
      rw [if_neg (by simp [zbd]), if_neg (by simp), if_neg (by simp), if_neg (by simp), if_neg hi]
  rw [if_neg h4] at h ⊢
  cases hf : namesL.find? (enS c t.text) with
  | none => rw [hf, if_pos (show (none : Option NameL).isSome = false from rfl)] at h; exact absurd h (by decide)
  | some x =>
    rw [if_neg (by simp)]
    have hx : x.letter = c ∧ x.name = t.text := by simpa using List.find?_some hf
    have hm := List.mem_of_find?_eq_some hf
    have hany : (namesL.find? (fun y => decide (y.letter = c))).isSome = true := by
      rw [List.find?_isSome]; exact ⟨x, hm, by simp [hx.1]⟩
    have hk : zbd c = 4 := by
      unfold zbd; rw [if_neg h2, if_neg h3, if_neg h4, if_pos ((znf hc.1 hc.2).2 hany)]
    have hen : zdS c x.n = 0 := by
      unfold zdS; rw [if_pos]
      rw [List.find?_isSome]; exact ⟨x, hm, by simp [hx.1]⟩
    refine ⟨hc0, hk.symm, ?_, Nat.zero_le _⟩
    unfold za2
    rw [if_neg (by simp [hk, hc0]), if_neg (by simp), if_neg (by simp), if_neg (by simp [hen]), if_neg (by simp [zeG])]
theorem zk1 {fm : FormL} {bound : Int} : ∀ {l : List TokL} {k : Nat}, (zbo fm bound k l).2.1 = 0 → za6 fm bound k (zbo fm bound k l).1 = 0 ∧ (zbo fm bound k l).1.length = l.length ∧ (zbo fm bound k l).2 = (0, 0)
  | [], k, _ => ⟨rfl, rfl, rfl⟩
  | t :: r, k, h => by
    unfold zbo at h ⊢
    by_cases h1 : (zd1 (zav fm k) t bound).2 ≠ 0
    · rw [if_pos h1] at h; exact absurd h h1
    · rw [if_neg h1] at h ⊢
      have h2 := zjZ (zcb fm k) (Nn h1)
      have ih := zk1 (l := r) (k := k + 1) h
      refine ⟨?_, by rw [List.length_cons, List.length_cons, ih.2.1], ih.2.2⟩
      unfold za6
      rw [if_neg (by rw [h2.2.2.1]; simp)]; exact ih.1
theorem zpa {op : Int} {ks : List Int} (h : (zdj op ks).2 = true) : (zcR op).isSome = true ∧ ¬ zjH (zaO op) ks.length := by
  unfold zdj at h
  by_cases h1 : (zcR op).isSome = true
  · rw [if_pos h1] at h
    refine ⟨h1, fun ho => ?_⟩
    unfold zhC at h
    cases hb : zg0 (zaO op) 0 ks with
    | some i => rw [hb] at h; cases h
    | none => rw [hb] at h; dsimp only at h; rw [if_pos ho] at h; cases h
  · rw [if_neg h1] at h; cases h
theorem ziB {t : Tx} {bound : Int} (h : idL t bound ≠ 0) : 1 ≤ idL t bound ∧ idL t bound < bound := by
  unfold idL at h ⊢
  split
  · assumption
  · rename_i q; rw [if_neg q] at h; exact absurd rfl h
theorem zgP {fm : FormL} {bound : Int} {said : Bool} {ty res : Int} {l : List TokL} (hfm : zaO fm.op = fm) (hr : fm.res = said) (hres : said = true → 1 ≤ res ∧ res < bound) (hres0 : said = false → res = 0) (hty : fm.ty = true → 1 ≤ ty ∧ ty < bound) (hty0 : fm.ty = false → ty = 0)
    (ha : (zbo fm bound 0 l).2.1 = 0) (hf : (zdj fm.op ((zbo fm bound 0 l).1.map ArgP.kind)).2 = true) :
    za3 bound ⟨fm.op, ty, res, (zbo fm bound 0 l).1⟩ = if zbD fm (zbo fm bound 0 l).1 > 65535 then 25 else 0 := by
  have h1 := zpa hf
  have h2 := zk1 ha
  unfold za3
  dsimp only
  rw [hfm] at h1 ⊢
  have ht : idH fm.ty ty bound 40 = 0 := by
    unfold idH
    cases hb : fm.ty with
    | false => rw [hty0 hb]; simp
    | true => have := hty hb; rw [if_neg (by simp; omega), if_neg (by simp; omega)]
  have hs : idH fm.res res bound 41 = 0 := by
    unfold idH
    rw [hr]
    cases hb : said with
    | false => rw [hres0 hb]; simp
    | true => have := hres hb; rw [if_neg (by simp; omega), if_neg (by simp; omega)]
  rw [if_neg (by rw [h1.1]; simp), if_neg (by rw [ht]; simp), if_neg (by rw [hs]; simp), if_neg (by rw [h2.1]; simp), if_neg (by have := h1.2; rwa [List.length_map] at this)]
end Go.SK
namespace Go.SK
theorem zf5 : refT.all (fun f => decide (zcR f.op = some f)) = true := by decide +kernel
theorem ziK {q : Tx} {fm : FormL} (h : refT.find? (nmF q) = some fm) : zcR fm.op = some fm ∧ zaO fm.op = fm ∧ fm.name = q := by
  have h1 : zcR fm.op = some fm := by simpa only [decide_eq_true_eq] using List.all_eq_true.1 zf5 fm (List.mem_of_find?_eq_some h)
  refine ⟨h1, by rw [zaO, h1]; rfl, by simpa using List.find?_some h⟩
structure ArI (fm : FormL) (bound : Int) (l : List TokL) (q j : Nat) (ags : List ArgP) : Prop where
  le : q + j ≤ l.length
  len : ags.length = j
  eq : zbo fm bound 0 (l.drop q) = (ags ++ (zbo fm bound j (l.drop (q + j))).1, (zbo fm bound j (l.drop (q + j))).2)
  tx : ∀ a ∈ ags, 4 * a.s.length ≤ wsz l
  sum : 4 * (ags.map zaD).sum + wsz (l.drop (q + j)) ≤ wsz (l.drop q) + 4 * j
section
variable {fm : FormL} {bound : Int} {l : List TokL} {q j : Nat} {ags : List ArgP}
theorem ArI.start (h : q ≤ l.length) : ArI fm bound l q 0 [] := ⟨h, rfl, rfl, fun a h => absurd h List.not_mem_nil, by simp⟩
theorem znN {c : Int} {t : TokL} {bound : Int} (hc : 0 ≤ c ∧ c ≤ 255) (h : (zd1 c t bound).2 = 0) : zaD (zd1 c t bound).1 ≤ t.text.length / 4 + 1 := by
  have h1 := (zjZ hc h).2.2.2
  unfold zaD
  split
  · have := Nat.div_le_div_right (c := 4) h1; omega
  · omega
theorem ArI.step (h : ArI fm bound l q j ags) (hj : q + j < l.length) (he : (zd1 (zav fm j) (l.getD (q + j) zaS) bound).2 = 0) : ArI fm bound l q (j + 1) (ags ++ [(zd1 (zav fm j) (l.getD (q + j) zaS) bound).1]) := by
  have hd := zeu hj
  have hr := znN (zcb fm j) he
  have ht := (zjZ (zcb fm j) he).2.2.2
  have hw := zg9 (l := l) (i := q + j) hj
  have hm := zp8 hj
  refine ⟨by omega, by rw [List.length_append, h.len]; rfl, ?_, fun a ha => ?_, ?_⟩
  · rw [h.eq, hd, zbo, if_neg (by rw [he]; simp), List.append_assoc, ← Nat.add_assoc]; rfl
  · rcases List.mem_append.1 ha with ha | ha
    · exact h.tx a ha
    · obtain rfl := List.mem_singleton.1 ha; omega
  · have hs := h.sum
    rw [List.map_append, List.sum_append, List.map_singleton, List.sum_singleton, ← Nat.add_assoc]
    omega
theorem ArI.bad (h : ArI fm bound l q j ags) (hj : q + j < l.length) (he : (zd1 (zav fm j) (l.getD (q + j) zaS) bound).2 ≠ 0) : (zbo fm bound 0 (l.drop q)).2 = ((zd1 (zav fm j) (l.getD (q + j) zaS) bound).2, (l.getD (q + j) zaS).at_) := by
  rw [h.eq, zeu hj, zbo, if_pos he]
theorem ArI.fin (h : ArI fm bound l q j ags) (hj : l.length ≤ q + j) : zbo fm bound 0 (l.drop q) = (ags, (0, 0)) := by
  rw [h.eq, List.drop_eq_nil_of_le hj, zbo, List.append_nil]
end
end Go.SK
namespace Go.SK
structure PaL where
  gn : Int
  bd : Int
  words : Nat
  insts : List InstL
def zms (e a : Int) : DecL := ((0, 0, []), (e, a))
def zkG (x : Tx) (s : PaL) : Except Int PaL :=
  if s.words = 0 then
    if (zd8 x).2.1 = 0 ∧ (zd8 x).1.length = 0 then .ok s
    else if (zdG x).2.1 ≠ 0 then .error (zdG x).2.1
    else .ok ⟨(zdG x).1.1, (zdG x).1.2, 5, []⟩
  else if (zc5 x s.bd).2.2.1 ≠ 0 then .error (zc5 x s.bd).2.2.1
  else if (zc5 x s.bd).2.1 = false then .ok s
  else if s.words + zbD (zaO (zc5 x s.bd).1.op) (zc5 x s.bd).1.args > 1048576 then .error 4
  else .ok ⟨s.gn, s.bd, s.words + zbD (zaO (zc5 x s.bd).1.op) (zc5 x s.bd).1.args, s.insts ++ [(zc5 x s.bd).1]⟩
def zly : Nat → List Tx → PaL → DecL
  | n, [], s => if s.words = 0 then zms 72 n else ((s.gn, s.bd, s.insts), (0, 0))
  | n, x :: r, s => match zkG x s with
    | .error e => zms e (n + 1)
    | .ok t => zly (n + 1) r t
def zpY (t : Tx) : DecL := if t.length > 16777216 then zms 4 0 else zly 0 (lnF t) ⟨0, 0, 0, []⟩
structure PaI (t : Tx) (i : Nat) (s : PaL) : Prop where
  le : i ≤ (lnF t).length
  eq : zly 0 (lnF t) ⟨0, 0, 0, []⟩ = zly i ((lnF t).drop i) s
  words : s.words ≤ 1048576
  small : s.insts.length ≤ s.words
theorem ziQ {l : List Tx} {i : Nat} (h : i < l.length) : l.drop i = l.getD i [] :: l.drop (i + 1) := by
  rw [List.drop_eq_getElem_cons h]; simp [List.getD, h]
section
variable {t : Tx} {i : Nat} {s s' : PaL}
theorem PaI.start : PaI t 0 ⟨0, 0, 0, []⟩ := ⟨Nat.zero_le _, rfl, Nat.zero_le _, Nat.le_refl _⟩
theorem PaI.bad (h : PaI t i s) (hi : i < (lnF t).length) {e : Int} (he : zkG ((lnF t).getD i []) s = .error e) : zly 0 (lnF t) ⟨0, 0, 0, []⟩ = zms e ((i : Int) + 1) := by
  rw [h.eq, ziQ hi, zly, he]
theorem PaI.step (h : PaI t i s) (hi : i < (lnF t).length) (he : zkG ((lnF t).getD i []) s = .ok s') : PaI t (i + 1) s' := by
  refine ⟨hi, by rw [h.eq, ziQ hi, zly, he], ?_, ?_⟩
  · have h1 := h.words
    unfold zkG at he
    split at he
    · split at he
      · cases he; omega
      · split at he
        · cases he
        · cases he; dsimp only; omega
    · split at he
      · cases he
      · split at he
        · cases he; omega
        · split at he
          · cases he
          · cases he; dsimp only; omega
  · have h1 := h.small
    unfold zkG at he
    split at he
    · split at he
      · cases he; omega
      · split at he
        · cases he
        · cases he; exact Nat.zero_le _
    · split at he
      · cases he
      · split at he
        · cases he; omega
        · split at he
          · cases he
          · cases he; dsimp only; rw [List.length_append, List.length_singleton]; unfold zbD; omega
theorem PaI.fin (h : PaI t (lnF t).length s) : zly 0 (lnF t) ⟨0, 0, 0, []⟩ = if s.words = 0 then zms 72 (lnF t).length else ((s.gn, s.bd, s.insts), (0, 0)) := by
  rw [h.eq, List.drop_eq_nil_of_le (Nat.le_refl _), zly]
end
end Go.SK
namespace Go.SK
def zcy (n : Int) : Tx := Lib.decDigits n.toNat
def idK (n : Int) : TokL := ⟨2, zcy n, 0⟩
def zd2 (c : Int) (a : ArgP) : TokL :=
  if a.kind = 1 then ⟨2, zcy a.n, 0⟩ else if a.kind = 2 then ⟨3, zcy a.n, 0⟩ else if a.kind = 3 then ⟨4, a.s, 0⟩ else ⟨1, ((namesL.find? (enN c a.n)).getD zc3).name, 0⟩
def zc0 (fm : FormL) : Nat → List ArgP → List TokL
  | _, [] => []
  | k, a :: r => zd2 (zav fm k) a :: zc0 fm (k + 1) r
def zeL (i : InstL) : List TokL :=
  (if (zaO i.op).res = true then [idK i.res, ⟨5, [61], 0⟩] else []) ++ (⟨1, (zaO i.op).name, 0⟩ :: ((if (zaO i.op).ty = true then [idK i.ty] else []) ++ zc0 (zaO i.op) 0 i.args))
def ziv (bound : Int) (i : InstL) : Tx × Int := if za3 bound i ≠ 0 then ([], za3 bound i) else (wrS (zeL i), 0)
abbrev ktL (l : List TokL) : List (Int × Tx) := l.map fun t => (t.kind, t.text)
theorem zcx {l : List TokL} {k : Int} {x : Tx} {z : List (Int × Tx)} (h : ktL l = (k, x) :: z) : ∃ t r, l = t :: r ∧ t.kind = k ∧ t.text = x ∧ ktL r = z := by
  cases l with
  | nil => cases h
  | cons t r =>
    injection h with h1 h2
    injection h1 with h3 h4
    exact ⟨t, r, rfl, h3, h4, h2⟩
theorem zqW {c bound : Int} {t u : TokL} (hk : t.kind = u.kind) (ht : t.text = u.text) : zd1 c t bound = zd1 c u bound := by
  unfold zd1; rw [hk, ht]
theorem zpZ {n bound : Int} (h : idE n bound = 0) : n ≠ 0 ∧ n < bound := by
  unfold idE at h
  split at h
  · cases h
  · omega
theorem zhG {n bound : Int} (h0 : 0 ≤ n) (h1 : n < 4294967296) (h : n ≠ 0 ∧ n < bound) : idL (zcy n) bound = n ∧ n ≠ 0 := by
  have hp := (zm5 (zcN (u := n.toNat) Om)).1
  unfold idL zcy
  rw [hp, if_pos (by omega)]; omega
theorem zpr {c bound : Int} {a : ArgP} (h : za2 c a bound = 0) (hk : zbd c ≠ 0) (h0 : 0 ≤ a.n) (h1 : a.n < 4294967296) : zd1 c (zd2 c a) bound = (a, 0) := by
  obtain ⟨k, n, s⟩ := a
  obtain ⟨hc, hkd, h3, hs, hid, hen, hz⟩ := zbB h
  dsimp only at hkd h3 hs hid hen hz h0 h1
  by_cases hc1 : c = 105
  · subst hc1
    have hk1 : k = 1 := hkd
    subst hk1
    have hi := zhG h0 h1 (zpZ (hid rfl))
    rw [show zd2 105 ⟨1, n, s⟩ = ⟨2, zcy n, 0⟩ from rfl]
    unfold zd1
    rw [if_neg (by simp [zlQ]), if_pos rfl]
    dsimp only
    rw [if_neg (by rw [hi.1]; exact hi.2), hi.1, hs (by decide)]
  by_cases hc2 : c = 110
  · subst hc2
    have hk1 : k = 2 := hkd
    subst hk1
    have hp : za5 (zcy n) = (n, 0) := by
      have hp := zdw (zcN (u := n.toNat) Om)
      rw [show ((n.toNat : Nat) : Int) = n by omega] at hp; exact hp
    rw [show zd2 110 ⟨2, n, s⟩ = ⟨3, zcy n, 0⟩ from rfl]
    unfold zd1
    rw [if_neg (by simp [zlQ]), if_neg (by decide), if_pos rfl]
    refine (if_neg (show ¬ (za5 (zcy n)).2 ≠ 0 by rw [hp]; simp)).trans ?_
    show ((⟨2, (za5 (zcy n)).1, []⟩ : ArgP), (0 : Int)) = _
    rw [hp, hs (by decide)]
  by_cases hc3 : c = 115
  · subst hc3
    have hk1 : k = 3 := hkd
    subst hk1
    rw [show zd2 115 ⟨3, n, s⟩ = ⟨4, s, 0⟩ from rfl]
    unfold zd1
    rw [if_neg (by simp [zlQ]), if_neg (by decide), if_neg (by decide), if_pos rfl]
    dsimp only
    rw [if_neg (by rw [hz]; simp), h3 rfl]
  have hk1 : k = 4 := by
    rw [hkd]; unfold zbd at hk hkd ⊢
    rw [if_neg hc1, if_neg hc2, if_neg hc3] at hk ⊢
    split
    · rfl
    · rename_i q; rw [if_neg q] at hk; exact absurd rfl hk
  subst hk1
  have he := hen rfl
  unfold zdS at he
  cases hf : namesL.find? (enN c n) with
  | none => rw [hf, if_neg (by simp)] at he; cases he
  | some x =>
    obtain ⟨hx1, hx2, hx3, _⟩ := ziM hf
    rw [show zd2 c ⟨4, n, s⟩ = ⟨1, ((namesL.find? (enN c n)).getD zc3).name, 0⟩ from rfl, hf]
    unfold zd1
    dsimp only [Option.getD_some]
    rw [if_neg (by unfold zlQ; rw [if_neg hc1, if_neg hc2, if_neg hc3]; simp [hc]), if_neg hc1, if_neg hc2, if_neg hc3, if_neg (show ¬ (namesL.find? (enS c x.name)).isSome = false by rw [hx3]; simp), hx3]
    dsimp only [Option.getD_some]
    rw [hx2, hs (by decide)]
theorem ziX {op bound : Int} : ∀ (l : List ArgP) (k : Nat) (r : List TokL), ktL r = ktL (zc0 (zaO op) k l) → za6 (zaO op) bound k l = 0 → (∀ a ∈ l, 0 ≤ a.n ∧ a.n < 4294967296) → zbo (zaO op) bound k r = (l, (0, 0))
  | [], k, r, h, _, _ => by
    cases r with
    | nil => rfl
    | cons t r => cases h
  | a :: l, k, r, h, hw, hn => by
    obtain ⟨t, r, rfl, hk, ht, hr⟩ := zcx (k := (zd2 (zav (zaO op) k) a).kind) (x := (zd2 (zav (zaO op) k) a).text) (z := ktL (zc0 (zaO op) (k + 1) l)) h
    have h2 := zdN hw
    have hz := zbB h2.1
    have ha := zpr h2.1 (zee _ _ hz.1) (hn a (.head _)).1 (hn a (.head _)).2
    have ih := ziX l (k + 1) r hr h2.2 (fun b hb => hn b (.tail _ hb))
    unfold zbo
    rw [zqW hk ht, ha, if_neg (by simp), ih]
theorem ze1 {bound : Int} {i : InstL} (h : za3 bound i = 0) : (zcR i.op).isSome = true ∧ idH (zaO i.op).ty i.ty bound 40 = 0 ∧ idH (zaO i.op).res i.res bound 41 = 0 ∧ za6 (zaO i.op) bound 0 i.args = 0 ∧ ¬ zjH (zaO i.op) i.args.length ∧ ¬ zbD (zaO i.op) i.args > 65535 := by
  unfold za3 at h
  split at h
  · cases h
  split at h
  · rename_i q; exact absurd h q
  split at h
  · rename_i q; exact absurd h q
  split at h
  · rename_i q; exact absurd h q
  split at h
  · cases h
  split at h
  · cases h
  · rename_i h1 h2 h3 h4 h5 h6
    exact ⟨by revert h1; cases (zcR i.op).isSome <;> simp, Nn h2, Nn h3, Nn h4, h5, h6⟩
structure InstL.U32 (i : InstL) : Prop where
  ty : 0 ≤ i.ty ∧ i.ty < 4294967296
  res : 0 ≤ i.res ∧ i.res < 4294967296
  args : ∀ a ∈ i.args, 0 ≤ a.n ∧ a.n < 4294967296
theorem znj {bound n : Int} {i : InstL} {l : List TokL} (hkt : ktL l = ktL (zeL i)) (hf : za3 bound i = 0) (hu : i.U32) : zem n l bound = (i, true, (0, 0)) := by
  obtain ⟨h1, h2, h3, h4, h5, h6⟩ := ze1 hf
  obtain ⟨fm, hfm⟩ := Option.isSome_iff_exists.1 h1
  have hop := zmT hfm
  have hD : zaO i.op = fm := by rw [zaO, hfm]; rfl
  have hfind := ziL hfm
  have hfits : (zdj i.op (i.args.map ArgP.kind)).2 = true := by
    rw [zct rfl rfl h1, zfB (zfG h4) (by rwa [List.length_map])]
  obtain ⟨op, ty, res, args⟩ := i
  dsimp only at *
  have hty := zfy De h2
  have hres := zfy De h3
  have hargs := fun r hr => ziX (op := op) args 0 r hr h4 hu.args
  unfold zeL at hkt
  dsimp only at hkt
  rw [hD] at hkt hty hres hargs h6
  cases hr : fm.res with
  | true =>
    rw [hr, if_pos rfl] at hkt
    obtain ⟨t0, l, rfl, k0, x0, hkt⟩ := zcx (k := 2) (x := zcy res) (z := _) hkt
    obtain ⟨t1, l, rfl, k1, x1, hkt⟩ := zcx (k := 5) (x := [61]) (z := _) hkt
    obtain ⟨t2, l, rfl, k2, x2, hkt⟩ := zcx (k := 1) (x := fm.name) (z := _) hkt
    have hrr := zhG hu.res.1 hu.res.2 (hres.1 hr)
    dsimp only at hrr
    have hat : zfl (t0 :: t1 :: t2 :: l) = 2 := if_pos k0
    unfold zem
    rw [hat, if_neg (by simp), if_neg (by simp), if_neg (by simp [List.getD, k1]), if_neg (by simp), if_neg (by simp [List.getD, k2])]
    have hq : ((t0 :: t1 :: t2 :: l).getD 2 zaS).text = fm.name := x2
    rw [hq, hfind, if_neg (by simp), Option.getD_some]
    unfold zfm
    rw [hat]
    have hq0 : ((t0 :: t1 :: t2 :: l).getD 0 zaS) = t0 := rfl
    rw [hq0, k0, x0, hrr.1, if_neg (by simp [hr]), if_neg (by simp [hrr.2]), if_pos rfl]
    cases ht : fm.ty with
    | true =>
      rw [ht, if_pos rfl] at hkt
      obtain ⟨t3, l, rfl, k3, x3, hkt⟩ := zcx (k := 2) (x := zcy ty) (z := _) hkt
      have htt := zhG hu.ty.1 hu.ty.2 (hty.1 ht)
      dsimp only at htt
      have hq3 : ((t0 :: t1 :: t2 :: t3 :: l).getD (2 + 1) zaS) = t3 := rfl
      rw [hq3, k3, x3, htt.1, if_neg (by simp), if_neg (by simp), if_neg (by simp [htt.2]), show (t0 :: t1 :: t2 :: t3 :: l).drop (2 + 1 + b2n true) = l from rfl, hargs l hkt]
      dsimp only
      rw [hop, if_neg (by simp), hfits, if_neg (by simp), if_neg h6, if_pos rfl]
    | false =>
      rw [ht] at hkt
      rw [if_neg (by simp), if_neg (by simp), if_neg (by simp), show (t0 :: t1 :: t2 :: l).drop (2 + 1 + b2n false) = l from rfl, hargs l hkt]
      dsimp only
      rw [hop, if_neg (by simp), hfits, if_neg (by simp), if_neg h6, if_neg (by simp), hty.2 ht]
  | false =>
    rw [hr, if_neg (by simp)] at hkt
    obtain ⟨t2, l, rfl, k2, x2, hkt⟩ := zcx (k := 1) (x := fm.name) (z := _) hkt
    have hat : zfl (t2 :: l) = 0 := if_neg (show ¬ t2.kind = 2 by omega)
    have hq0 : ((t2 :: l).getD 0 zaS) = t2 := rfl
    unfold zem
    rw [hat, hq0, k2, if_neg (by simp), if_neg (by simp), if_neg (by simp), if_neg (by simp), if_neg (by simp), x2, hfind, if_neg (by simp), Option.getD_some]
    unfold zfm
    rw [hat, hq0, k2, if_neg (by simp [hr]), if_neg (by simp)]
    cases ht : fm.ty with
    | true =>
      rw [ht, if_pos rfl] at hkt
      obtain ⟨t3, l, rfl, k3, x3, hkt⟩ := zcx (k := 2) (x := zcy ty) (z := _) hkt
      have htt := zhG hu.ty.1 hu.ty.2 (hty.1 ht)
      dsimp only at htt
      have hq3 : ((t2 :: t3 :: l).getD (0 + 1) zaS) = t3 := rfl
      rw [hq3, k3, x3, htt.1, if_neg (by simp), if_neg (by simp), if_neg (by simp [htt.2]), show (t2 :: t3 :: l).drop (0 + 1 + b2n true) = l from rfl, hargs l hkt]
      dsimp only
      rw [hop, if_neg (by simp), hfits, if_neg (by simp), if_neg h6, if_pos rfl, if_neg (by simp), hres.2 hr]
    | false =>
      rw [ht] at hkt
      rw [if_neg (by simp), if_neg (by simp), if_neg (by simp), show (t2 :: l).drop (0 + 1 + b2n false) = l from rfl, hargs l hkt]
      dsimp only
      rw [hop, if_neg (by simp), hfits, if_neg (by simp), if_neg h6, if_neg (by simp), if_neg (by simp), hty.2 ht, hres.2 hr]
end Go.SK
namespace Go.SK
def zoo (s : Tx) : Bool := decide (s ≠ []) && zeE (s.getD 0 0) && decide (zbY s = s)
theorem zgM : refT.all (fun f => zoo f.name) = true := by decide +kernel
theorem zgV : namesL.all (fun x => zoo x.name) = true := by decide +kernel
theorem zeJ {s : Tx} {a : Int} (h : zoo s = true) : wrT ⟨1, s, a⟩ = some s := by
  simp only [zoo, Bool.and_eq_true, decide_eq_true_eq] at h
  exact zpR rfl h.1.1 h.1.2 h.2
theorem zld {n : Int} (h0 : 0 ≤ n) (h1 : n < 4294967296) (a : Int) : wrT ⟨2, zcy n, a⟩ = some (37 :: zcy n) :=
  zpQ rfl (by show (zaT (Lib.decDigits n.toNat)).isSome = true; rw [zcN (u := n.toNat) (by omega)]; rfl)
theorem zgD {n : Int} (h0 : 0 ≤ n) (h1 : n < 4294967296) (a : Int) : wrT ⟨3, zcy n, a⟩ = some (zcy n) :=
  zpP rfl (by show (za5 (Lib.decDigits n.toNat)).2 = 0; rw [zdw (zcN (u := n.toNat) (by omega))])
theorem zpO {c bound : Int} {a : ArgP} (h : za2 c a bound = 0) (hk : zbd c ≠ 0) (h0 : 0 ≤ a.n) (h1 : a.n < 4294967296) : ∃ x, wrT (zd2 c a) = some x := by
  obtain ⟨k, n, s⟩ := a
  obtain ⟨hc, hkd, h3, hs, hid, hen, hz⟩ := zbB h
  dsimp only at hkd h3 hs hid hen hz h0 h1
  unfold zd2
  dsimp only
  by_cases hk1 : k = 1
  · rw [if_pos hk1]; exact ⟨_, zld h0 h1 _⟩
  rw [if_neg hk1]
  by_cases hk2 : k = 2
  · rw [if_pos hk2]; exact ⟨_, zgD h0 h1 _⟩
  rw [if_neg hk2]
  by_cases hk3 : k = 3
  · rw [if_pos hk3]; exact ⟨_, zmz rfl⟩
  rw [if_neg hk3]
  have hb := zkM c
  have hk4 : k = 4 := by omega
  have he := hen hk4
  unfold zdS at he
  cases hf : namesL.find? (enN c n) with
  | none => rw [hf, if_neg (by simp)] at he; cases he
  | some x => exact ⟨_, zeJ (List.all_eq_true.1 zgV x (List.mem_of_find?_eq_some hf))⟩
theorem zaQ {t : TokL} {r : List TokL} {x : Tx} {o : List Tx} (h : wrT t = some x) (hr : wrL r = some o) : wrL (t :: r) = some (x :: o) := by
  unfold wrL; rw [h, hr]; rfl
theorem zha {op bound : Int} : ∀ (l : List ArgP) (k : Nat), za6 (zaO op) bound k l = 0 → (∀ a ∈ l, 0 ≤ a.n ∧ a.n < 4294967296) → ∃ o, wrL (zc0 (zaO op) k l) = some o
  | [], k, _, _ => ⟨[], rfl⟩
  | a :: l, k, hw, hn => by
    have h2 := zdN hw
    have hz := zbB h2.1
    obtain ⟨x, hx⟩ := zpO h2.1 (zee _ _ hz.1) (hn a (.head _)).1 (hn a (.head _)).2
    obtain ⟨o, ho⟩ := zha l (k + 1) h2.2 (fun b hb => hn b (.tail _ hb))
    exact ⟨x :: o, zaQ hx ho⟩
theorem zqa {bound : Int} {i : InstL} (hf : za3 bound i = 0) (hu : i.U32) : ∃ o, wrL (zeL i) = some o := by
  obtain ⟨h1, h2, h3, h4, h5, h6⟩ := ze1 hf
  obtain ⟨fm, hfm⟩ := Option.isSome_iff_exists.1 h1
  have hD : zaO i.op = fm := by rw [zaO, hfm]; rfl
  have hm := (zcp hfm).1
  obtain ⟨o, ho⟩ := zha i.args 0 h4 hu.args
  have hw := zeJ (a := 0) (List.all_eq_true.1 zgM fm hm)
  unfold zeL
  rw [hD] at ho ⊢
  have hty := zld hu.ty.1 hu.ty.2 0
  have hres := zld hu.res.1 hu.res.2 0
  cases fm.res <;> cases fm.ty <;> simp only [if_true, if_false, Bool.false_eq_true, List.nil_append, List.cons_append]
  · exact ⟨_, zaQ hw ho⟩
  · exact ⟨_, zaQ hw (zaQ hty ho)⟩
  · exact ⟨_, zaQ hres (zaQ (zhW rfl rfl) (zaQ hw ho))⟩
  · exact ⟨_, zaQ hres (zaQ (zhW rfl rfl) (zaQ hw (zaQ hty ho)))⟩
theorem zkC : ∀ (l : List TokL) (o : List Tx) (k : Nat), wrL l = some o → ktL (zif l o k) = ktL l := fun l o k h => by
  refine List.ext_getElem (by rw [List.length_map, List.length_map, (zde l o k h).1]) fun j h1 h2 => ?_
  rw [List.length_map] at h1 h2
  have hg := (zie l o k j h h2).1
  rw [List.getElem_map, List.getElem_map]
  simp only [List.getD, List.getElem?_eq_getElem h1, List.getElem?_eq_getElem h2, Option.getD_some] at hg
  rw [hg]
theorem zeT {bound : Int} {i : InstL} (hf : za3 bound i = 0) (hu : i.U32) : ∃ o, wrL (zeL i) = some o ∧ ziv bound i = (Lib.join o [32], 0) ∧ zc5 (Lib.join o [32]) bound = (i, true, (0, 0)) := by
  obtain ⟨o, ho⟩ := zqa hf hu
  refine ⟨o, ho, ?_, ?_⟩
  · unfold ziv; rw [if_neg (by rw [hf]; simp), (zc9 (zkr ho)).1]
  · unfold zc5
    rw [zeW ho, if_neg (by simp)]
    exact znj (zkC _ _ _ ho) hf hu
end Go.SK
namespace Go.SK
abbrev no10 (c : UInt8) : Bool := decide (c.toNat ≠ 10)
theorem zkA {s : Tx} (h : zbY s = s) : s.all no10 = true := by
  have h1 : s.all zhl = true := by
    rw [← h]; unfold zbY; simp [List.all_takeWhile]
  rw [List.all_eq_true] at h1 ⊢
  intro c hc
  have h2 := h1 c hc
  simp only [zhl, zeE, zc7, Bool.or_eq_true, decide_eq_true_eq] at h2
  exact Dt Om
theorem zpk {s : Tx} (h : s.all zc7 = true) : s.all no10 = true := by
  rw [List.all_eq_true] at h ⊢
  intro c hc
  have h2 := h c hc
  simp only [zc7, decide_eq_true_eq] at h2
  exact Dt Om
theorem zp9 {t : TokL} {x : Tx} (h : wrT t = some x) : x.all no10 = true := by
  unfold wrT at h
  split at h
  · split at h
    · rename_i h1; cases h; exact zkA h1.2.2
    · cases h
  split at h
  · split at h
    · rename_i h1
      cases h
      obtain ⟨n, hn⟩ := Option.isSome_iff_exists.1 h1
      rw [List.all_cons, zpk (zek hn).2]; rfl
    · cases h
  split at h
  · split at h
    · rename_i h1
      cases h
      obtain ⟨h2, h3, h4⟩ := zin h1
      have h5 := zkA h4
      cases hx : t.text with
      | nil => rfl
      | cons c r =>
        rw [hx] at h3 h5
        have h6 : (c :: r).drop 1 = r := rfl
        rw [h6] at h5
        rw [List.all_cons, h5]
        have h7 : zc7 c = true ∨ c.toNat = 45 := h3
        simp only [zc7, decide_eq_true_eq] at h7
        simp only [Bool.and_true, decide_eq_true_eq]
        omega
    · cases h
  split at h
  · cases h
    have h1 := zmZ t.text
    rw [List.all_eq_true] at h1 ⊢
    intro c hc
    have h2 := of_decide_eq_true (h1 c hc)
    exact Dt Om
  split at h
  · split at h
    · cases h; rfl
    · cases h
  · cases h
theorem zmx {p : UInt8 → Bool} (hp : ∀ t x, wrT t = some x → x.all p = true) : ∀ (l : List TokL) (o : List Tx), wrL l = some o → ∀ x ∈ o, x.all p = true
  | [], o, h, x, hx => by cases h; cases hx
  | t :: r, o, h, x, hx => by
    unfold wrL at h
    cases ht : wrT t with
    | none => rw [ht] at h; cases h
    | some a =>
      cases hr : wrL r with
      | none => rw [ht, hr] at h; cases h
      | some b =>
        rw [ht, hr] at h
        cases h
        rcases List.mem_cons.1 hx with rfl | hx
        · exact hp _ _ ht
        · exact zmx hp r b hr x hx
theorem zo5 {p : UInt8 → Bool} (h32 : p 32 = true) : ∀ o : List Tx, (∀ x ∈ o, x.all p = true) → (Lib.join o [32]).all p = true
  | [], _ => by rw [Lib.join_nil]; rfl
  | x :: r, h => by
    rw [Lib.join_cons, List.all_append, h x (.head _), Bool.true_and, List.all_eq_true]
    intro c hc
    unfold Lib.joinTail at hc
    obtain ⟨y, hy, hcy⟩ := List.mem_flatten.1 hc
    obtain ⟨z, hz, rfl⟩ := List.mem_map.1 hy
    rcases List.mem_append.1 hcy with h1 | h1
    · obtain rfl := List.mem_singleton.1 h1; exact h32
    · exact List.all_eq_true.1 (h z (.tail _ hz)) c h1
theorem ziu {l : List TokL} {o : List Tx} (h : wrL l = some o) : (Lib.join o [32]).all no10 = true := zo5 De o (zmx (fun t x => zp9) l o h)
theorem zkJ {x y : Tx} (h : x.all no10 = true) : lnF (x ++ 10 :: y) = x :: lnF y := by
  have hk : x.length < (x ++ 10 :: y).length := by rw [List.length_append, List.length_cons]; omega
  have hc := zp5 (r := x ++ 10 :: y) (k := x.length) hk (fun j hj => by rw [zfA hj]; exact of_decide_eq_true (zj3 h hj)) (by simp [List.getD])
  rw [zo3 (by omega), hc.1, hc.2]
  rw [List.take_left, show x.length + 1 = (x ++ [10]).length by simp, show x ++ 10 :: y = (x ++ [10]) ++ y by simp, List.drop_left]
def znr (gn bd : Int) : List TokL := [⟨1, modW, 0⟩, ⟨3, zcy gn, 0⟩, ⟨3, zcy bd, 0⟩]
def zbK (bd : Int) (l : List InstL) : Tx := l.flatMap fun i => (ziv bd i).1 ++ [10]
def zce (gn bd : Int) (l : List InstL) : Tx × (Int × Int) := if (za7 bd l).1 ≠ 0 then ([], za7 bd l) else (wrS (znr gn bd) ++ 10 :: zbK bd l, (0, 0))
section
variable {gn bd : Int}
theorem znH {n : Int} (h0 : 0 ≤ n) (h1 : n < 4294967296) : za5 (zcy n) = (n, 0) := by
  have hp := zdw (zcN (u := n.toNat) Om)
  rw [show ((n.toNat : Nat) : Int) = n by omega] at hp; exact hp
theorem znq (hg : 0 ≤ gn ∧ gn < 4294967296) (hb : 1 ≤ bd ∧ bd ≤ 65536) : ∃ o, wrL (znr gn bd) = some o ∧ wrS (znr gn bd) = Lib.join o [32] ∧ zdG (Lib.join o [32]) = ((gn, bd), (0, 0)) ∧ (zd8 (Lib.join o [32])).1.length = 3 := by
  have ho : wrL (znr gn bd) = some [modW, zcy gn, zcy bd] := zaQ (zeJ De) (zaQ (zgD hg.1 hg.2 0) (zaQ (zgD Om Om 0) rfl))
  refine ⟨_, ho, (zc9 (zkr ho)).1, ?_, ?_⟩
  · have hkt := zkC _ _ 0 ho
    unfold zdG
    rw [zeW ho, if_neg (by simp)]
    obtain ⟨t0, l, hl, k0, x0, hkt⟩ := zcx (k := 1) (x := modW) (z := _) hkt
    obtain ⟨t1, l, rfl, k1, x1, hkt⟩ := zcx (k := 3) (x := zcy gn) (z := _) hkt
    obtain ⟨t2, l, rfl, k2, x2, hkt⟩ := zcx (k := 3) (x := zcy bd) (z := _) hkt
    cases l with
    | cons t r => cases hkt
    | nil =>
      dsimp only
      rw [hl]
      have e0 : ([t0, t1, t2].getD 0 zaS) = t0 := rfl
      have e1 : ([t0, t1, t2].getD 1 zaS) = t1 := rfl
      have e2 : ([t0, t1, t2].getD 2 zaS) = t2 := rfl
      rw [head3 (by rw [e0]; exact k0) (by rw [e0]; exact x0) (by simp), e1, e2, k1, k2, x1, x2, znH hg.1 hg.2, znH (n := bd) (by omega) (by omega), if_neg (by simp), if_neg (by simp), if_neg (by simp), if_neg (by simp), if_neg (by simp), if_neg (by simp; omega), if_neg (by simp)]
  · rw [zeW ho]; exact (zde _ _ 0 ho).1
theorem zik : ∀ (l : List InstL) (n w k : Nat) (m : List InstL), 0 < w → (zbF bd w k l).1 = 0 → (∀ i ∈ l, i.U32) → zly n (lnF (zbK bd l)) ⟨gn, bd, w, m⟩ = ((gn, bd, m ++ l), (0, 0))
  | [], n, w, k, m, hw, _, _ => by
    rw [show zbK bd [] = [] from rfl, zqC (r := ([] : Tx)) rfl, zly, if_neg (by dsimp only; omega), List.append_nil]
  | i :: l, n, w, k, m, hw, hs, hu => by
    unfold zbF at hs
    split at hs
    · rename_i h; exact absurd hs h
    rename_i hf
    split at hs
    · cases hs
    rename_i hr
    obtain ⟨o, ho, hp, hl⟩ := zeT (Nn hf) (hu i (.head _))
    have e : zbK bd (i :: l) = Lib.join o [32] ++ 10 :: zbK bd l := by
      unfold zbK; rw [List.flatMap_cons, hp]; simp
    rw [e, zkJ (ziu ho), zly]
    have hst : zkG (Lib.join o [32]) ⟨gn, bd, w, m⟩ = .ok ⟨gn, bd, w + zbD (zaO i.op) i.args, m ++ [i]⟩ := by
      unfold zkG
      dsimp only
      rw [if_neg (by omega), hl]
      dsimp only
      rw [if_neg (by simp), if_neg (by simp), if_neg hr]
    rw [hst]
    dsimp only
    rw [zik l (n + 1) _ (k + 1) _ (by omega) hs (fun j hj => hu j (.tail _ hj)), List.append_assoc]; rfl
theorem zh3 {l : List InstL} (hs : (za7 bd l).1 = 0) (hg : 0 ≤ gn ∧ gn < 4294967296) (hu : ∀ i ∈ l, i.U32) (hb0 : 0 ≤ bd) (ht : (zce gn bd l).1.length ≤ 16777216) : (zce gn bd l).2 = (0, 0) ∧ zpY (zce gn bd l).1 = ((gn, bd, l), (0, 0)) := by
  have hbd : 1 ≤ bd ∧ bd ≤ 65536 := by
    unfold za7 at hs
    split at hs
    · cases hs
    · omega
  have hsg : (zbF bd 5 0 l).1 = 0 := by
    unfold za7 at hs
    split at hs
    · cases hs
    · exact hs
  obtain ⟨o, ho, hw, hh, hn⟩ := znq hg hbd
  have e : zce gn bd l = (Lib.join o [32] ++ 10 :: zbK bd l, (0, 0)) := by
    unfold zce; rw [if_neg (by rw [hs]; simp), hw]
  rw [e] at ht ⊢
  refine ⟨rfl, ?_⟩
  unfold zpY
  rw [if_neg (by dsimp only at ht ⊢; omega)]
  dsimp only
  rw [zkJ (ziu ho), zly]
  have hst : zkG (Lib.join o [32]) ⟨0, 0, 0, []⟩ = .ok ⟨gn, bd, 5, []⟩ := by
    unfold zkG
    rw [if_pos rfl, if_neg (by rw [hn]; simp), hh, if_neg (by simp)]
  rw [hst]
  exact zik l 1 5 0 [] Om hsg hu
end
end Go.SK
namespace Go.SK
def zp3 (c : Int) : Int := if c = 105 then -9 else if c = 100 then 1 else 0
def zky (fm : FormL) : Nat → Nat → Int
  | _, 0 => 0
  | k, n + 1 => zp3 (zav fm k) + zky fm (k + 1) n
theorem zne : refT.all (fun f => decide ((f.name.length : Int) + 1 + (if f.res = true then 9 else 0) + (if f.ty = true then 7 else 0) + zky f 0 f.fixed.length ≤ 16 * (1 + ((b2n f.ty : Int) + b2n f.res))) && f.rest.all (fun c => decide (c.toNat ≠ 100))) = true := by decide +kernel
theorem zlZ : namesL.all (fun x => decide ((x.name.length : Int) + 1 ≤ 16 + (if x.letter = 100 then 1 else 0) ∧ x.letter ≠ 105)) = true := by decide +kernel
theorem zkx (fm : FormL) : ∀ (a b k : Nat), zky fm k (a + b) = zky fm k a + zky fm (k + a) b
  | 0, b, k => by rw [Nat.zero_add, zky, Nat.add_zero]; omega
  | a + 1, b, k => by
    rw [show a + 1 + b = (a + b) + 1 by omega, zky, zky, zkx fm a b (k + 1), show k + 1 + a = k + (a + 1) by omega]; omega
theorem zh6 {fm : FormL} (hr : fm.rest.all (fun c => decide (c.toNat ≠ 100)) = true) : ∀ (n k : Nat), fm.fixed.length ≤ k → zky fm k n ≤ 0
  | 0, k, _ => Int.le_refl _
  | n + 1, k, hk => by
    have ih := zh6 hr n (k + 1) Om
    have hl : zav fm k ≠ 100 := by
      unfold zav
      rw [if_neg (by omega), if_neg (by omega)]
      unfold zfk
      split
      · decide
      · rename_i h
        have hne : fm.rest ≠ [] := fun e => h (.inr (.inl e))
        have hp := List.length_pos_iff.2 hne
        have hm := Int.emod_lt_of_pos ((k : Int) - (fm.fixed.length : Int)) (show (0 : Int) < fm.rest.length by omega)
        have hg := Int.emod_nonneg ((k : Int) - (fm.fixed.length : Int)) (show (fm.rest.length : Int) ≠ 0 by omega)
        have hi : (((k : Int) - fm.fixed.length) % fm.rest.length).toNat < fm.rest.length := by omega
        have := of_decide_eq_true (zj3 hr hi)
        omega
    have : zp3 (zav fm k) ≤ 0 := by
      unfold zp3
      split
      · omega
      · first | omega | (rw [if_neg hl]; omega)
    rw [zky]; omega
theorem zgb {n : Int} {k : Nat} (h0 : 0 ≤ n) (h : n.toNat < 10 ^ (k + 1)) : (zcy n).length ≤ k + 1 := by
  unfold zcy; rw [zhF]
  exact zdx (k := k) h
theorem zqV {c bound : Int} {a : ArgP} {x : Tx} (h : za2 c a bound = 0) (hk : zbd c ≠ 0) (h0 : 0 ≤ a.n) (h1 : a.n < 4294967296) (hb : bound ≤ 65536) (hx : wrT (zd2 c a) = some x) : (x.length : Int) + 1 ≤ 16 * zaD a + zp3 c := by
  obtain ⟨k, n, s⟩ := a
  obtain ⟨hc, hkd, h3, hs, hid, hen, hz⟩ := zbB h
  dsimp only at hkd h3 hs hid hen hz h0 h1
  have hd : (zcy n).length ≤ 10 := zgb (k := 9) h0 Om
  unfold zd2 at hx
  unfold zaD
  dsimp only at hx ⊢
  by_cases hk1 : k = 1
  · rw [if_pos hk1, zld h0 h1] at hx; cases hx
    have h5 : (zcy n).length ≤ 5 := zgb (k := 4) h0 (by have := (zpZ (hid hk1)).2; omega)
    rw [if_neg (by omega), List.length_cons]
    have hc5 : c = 105 := by
      unfold zbd at hkd
      split at hkd
      · assumption
      · repeat (first | (split at hkd) | omega)
    unfold zp3; rw [if_pos hc5]; omega
  rw [if_neg hk1] at hx
  by_cases hk2 : k = 2
  · rw [if_pos hk2, zgD h0 h1] at hx; cases hx
    have hc5 : c ≠ 105 := fun e => by subst e; rw [hk2] at hkd; exact absurd hkd (by decide)
    rw [if_neg (by omega)]; unfold zp3; rw [if_neg hc5]; split <;> omega
  rw [if_neg hk2] at hx
  by_cases hk3 : k = 3
  · rw [if_pos hk3, zmz rfl] at hx; cases hx
    have := zij s
    have hc5 : c ≠ 105 := fun e => by subst e; rw [hk3] at hkd; exact absurd hkd (by decide)
    rw [if_pos hk3]; dsimp only
    unfold zp3; rw [if_neg hc5]; split <;> omega
  rw [if_neg hk3] at hx
  have hkb := zkM c
  have hk4 : k = 4 := by omega
  have he := hen hk4
  unfold zdS at he
  cases hf : namesL.find? (enN c n) with
  | none => rw [hf, if_neg (by simp)] at he; cases he
  | some y =>
    rw [hf] at hx
    have hm := List.mem_of_find?_eq_some hf
    have hw : wrT ⟨1, ((some y).getD zc3).name, 0⟩ = some y.name := zeJ (List.all_eq_true.1 zgV y hm)
    rw [hw] at hx; cases hx
    have h5 := of_decide_eq_true (List.all_eq_true.1 zlZ y hm)
    have hy := (ziM hf).1
    rw [hy] at h5
    rw [if_neg hk3]; unfold zp3; rw [if_neg h5.2]; omega
theorem zk0 {op bound : Int} (hb : bound ≤ 65536) : ∀ (l : List ArgP) (k : Nat) (o : List Tx), za6 (zaO op) bound k l = 0 → (∀ a ∈ l, 0 ≤ a.n ∧ a.n < 4294967296) → wrL (zc0 (zaO op) k l) = some o → (osz o : Int) ≤ 16 * (l.map zaD).sum + zky (zaO op) k l.length
  | [], k, o, _, _, h => by cases h; exact Int.le_refl _
  | a :: l, k, o, hw, hn, h => by
    have h2 := zdN hw
    have hz := zbB h2.1
    have hk := zee _ _ hz.1
    obtain ⟨x, hx⟩ := zpO h2.1 hk (hn a (.head _)).1 (hn a (.head _)).2
    obtain ⟨p, hp⟩ := zha l (k + 1) h2.2 (fun b hb => hn b (.tail _ hb))
    have e : wrL (zc0 (zaO op) k (a :: l)) = some (x :: p) := zaQ hx hp
    rw [e] at h; cases h
    have ih := zk0 hb l (k + 1) p h2.2 (fun b hb => hn b (.tail _ hb)) hp
    have h1 := zqV h2.1 hk (hn a (.head _)).1 (hn a (.head _)).2 hb hx
    rw [osz, List.map_cons, List.sum_cons, List.length_cons, zky]; omega
theorem zo6 {bound : Int} {i : InstL} {o : List Tx} (hf : za3 bound i = 0) (hu : i.U32) (hb : bound ≤ 65536) (ho : wrL (zeL i) = some o) : osz o ≤ 16 * zbD (zaO i.op) i.args := by
  obtain ⟨h1, h2, h3, h4, h5, h6⟩ := ze1 hf
  obtain ⟨fm, hfm⟩ := Option.isSome_iff_exists.1 h1
  have hD : zaO i.op = fm := by rw [zaO, hfm]; rfl
  have hm := (zcp hfm).1
  obtain ⟨p, hp⟩ := zha i.args 0 h4 hu.args
  have hpl := zk0 hb i.args 0 p h4 hu.args hp
  have hw := zeJ (a := 0) (List.all_eq_true.1 zgM fm hm)
  have hnl0 := List.all_eq_true.1 zne fm hm
  rw [Bool.and_eq_true] at hnl0
  have hnl := of_decide_eq_true hnl0.1
  have hfx : fm.fixed.length ≤ i.args.length := by
    rw [hD] at h5
    exact Classical.byContradiction fun hq => h5 (.inl Om)
  have hse : zky fm 0 i.args.length ≤ zky fm 0 fm.fixed.length := by
    have h7 := zkx fm fm.fixed.length (i.args.length - fm.fixed.length) 0
    have h8 := zh6 hnl0.2 (i.args.length - fm.fixed.length) (0 + fm.fixed.length) Om
    rw [show fm.fixed.length + (i.args.length - fm.fixed.length) = i.args.length by omega] at h7
    omega
  rw [hD] at hpl
  have hty := zfy De h2
  have hres := zfy De h3
  unfold zeL idK at ho
  unfold zbD
  rw [hD] at ho hp hty hres ⊢
  have wty := zld hu.ty.1 hu.ty.2 0
  have wres := zld hu.res.1 hu.res.2 0
  have lres : fm.res = true → (zcy i.res).length ≤ 5 := fun h => zgb (k := 4) hu.res.1 (by have := (hres.1 h).2; omega)
  have lty : fm.ty = true → (zcy i.ty).length ≤ 5 := fun h => zgb (k := 4) hu.ty.1 (by have := (hty.1 h).2; omega)
  cases hr : fm.res <;> cases ht : fm.ty <;> rw [hr, ht] at hnl <;> simp only [hr, ht, if_true, if_false, Bool.false_eq_true, List.nil_append, List.cons_append, b2n] at ho hnl ⊢
  · rw [zaQ hw hp] at ho; cases ho
    simp only [osz]; omega
  · rw [zaQ hw (zaQ wty hp)] at ho; cases ho
    have := lty ht
    simp only [osz, List.length_cons]; omega
  · rw [zaQ wres (zaQ (zhW rfl rfl) (zaQ hw hp))] at ho; cases ho
    have := lres hr
    simp only [osz, List.length_cons, List.length_nil]; omega
  · rw [zaQ wres (zaQ (zhW rfl rfl) (zaQ hw (zaQ wty hp)))] at ho; cases ho
    have := lres hr
    have := lty ht
    simp only [osz, List.length_cons, List.length_nil]; omega
theorem zow {i : InstL} {o : List Tx} (ho : wrL (zeL i) = some o) : 0 < o.length := by
  have := (zde _ _ 0 ho).2
  rw [this]; unfold zeL; rw [List.length_append, List.length_cons]; omega
theorem zgO {bd : Int} (hb : bd ≤ 65536) : ∀ (l : List InstL) (n k : Nat), n ≤ 1048576 → (zbF bd n k l).1 = 0 → (∀ i ∈ l, i.U32) → (zbK bd l).length + 16 * n ≤ 16777216
  | [], n, k, hn, _, _ => by show 0 + 16 * n ≤ 16777216; omega
  | i :: l, n, k, hn, hs, hu => by
    unfold zbF at hs
    split at hs
    · rename_i h; exact absurd hs h
    rename_i hf
    split at hs
    · cases hs
    rename_i hr
    obtain ⟨o, ho, hp, hl⟩ := zeT (Nn hf) (hu i (.head _))
    have e : zbK bd (i :: l) = Lib.join o [32] ++ 10 :: zbK bd l := by
      unfold zbK; rw [List.flatMap_cons, hp]; simp
    have ih := zgO hb l _ (k + 1) Om hs (fun j hj => hu j (.tail _ hj))
    have h1 := zo6 (Nn hf) (hu i (.head _)) hb ho
    have h2 := zkH (zow ho)
    rw [e, List.length_append, List.length_cons]; omega
theorem zhe {gn bd : Int} {l : List InstL} (hs : (za7 bd l).1 = 0) (hg : 0 ≤ gn ∧ gn < 4294967296) (hu : ∀ i ∈ l, i.U32) (hb0 : 0 ≤ bd) : (zce gn bd l).1.length ≤ 16777216 := by
  have hbd : (1 ≤ bd ∧ bd ≤ 65536) ∧ (zbF bd 5 0 l).1 = 0 := by
    unfold za7 at hs
    split at hs
    · cases hs
    · exact ⟨by omega, hs⟩
  have ho : wrL (znr gn bd) = some [modW, zcy gn, zcy bd] := zaQ (zeJ De) (zaQ (zgD hg.1 hg.2 0) (zaQ (zgD Om Om 0) rfl))
  have hw := (zc9 (zkr ho)).1
  have h1 := zgO hbd.1.2 l 5 0 Om hbd.2 hu
  have h2 := zkH (o := [modW, zcy gn, zcy bd]) (by simp)
  have h3 : (zcy gn).length ≤ 10 := zgb (k := 9) hg.1 Om
  have h4 : (zcy bd).length ≤ 5 := zgb (k := 4) hb0 Om
  have h5 : modW.length = 6 := rfl
  simp only [osz] at h2
  unfold zce
  rw [if_neg (by rw [hs]; simp), hw]
  dsimp only
  rw [List.length_append, List.length_cons]; omega
end Go.SK
