/- What the functions that DumpSpoiltCardSaid reaches compute: part 4. -/
import Derived.Test.YthfoooplgceaoaaGreatDoorOwnDumpSpoiltCardSaid3
set_option linter.unusedVariables false
set_option linter.unusedSimpArgs false
namespace Go.Proofs.R9
open Go Go.AE
set_option maxRecDepth 100000
def Zs:List UInt8:=List.replicate 64 0
def y4:List ZH:=zUZ.filter fun r => !([112,114,116,125,77,78,43,18,9,7,10].any fun g=>Nat.beq g r.g)
def y7:List ZH:=zUM.filter fun r => !([112,114,116,125,77,78,43,18,9,7,10].any fun g=>Nat.beq g r.g)
def T0l:List AV:=[(.ptr 0 0),(.int .i64 15),(.int .i64 24)]
def T0h:List AE.Obj :=
  [.cells [(.own 1),(.map 2),(.own 3),(.int .i64 0),(.own 4),(.int .i64 0),(.bool false)],
  .arr .str (List.replicate 39 Zs),
  .mp .i64 .str [],
  .arr (.st (.pair (.int .i64) .str)) [],
  .arr (.int .i64) []]
def T0v:AV:=(.int .i64 0)
def T0k:List AE.Obj :=
  [.cells [(.own 1),(.map 2),(.own 5),(.int .i64 26),(.own 4),(.int .i64 0),(.bool false)],
  .arr .str (List.replicate 16 Zs++[([76,0,0,0,0,0,1,0,0,0,0,0,1,0,0,10,175,100,78]++List.replicate 45 0)]++List.replicate 22 Zs),
  .mp .i64 .str [],
  .arr (.st (.pair (.int .i64) .str)) [(15,Zs),(16,Zs),(17,Zs),(18,Zs),(19,Zs),(20,Zs),(21,Zs),(22,Zs),(23,Zs),(24,Zs),(25,Zs),(26,Zs),(27,Zs),(28,Zs),(29,Zs),(30,Zs),(31,Zs),(32,Zs),(33,Zs),(34,Zs),(35,Zs),(36,Zs),(37,Zs),(38,Zs),(16,([76,0,0,0,0,0,1,0,0,0,0,0,1,0,0,10,175,100,78]++List.replicate 45 0))],
  .arr (.int .i64) [],
  .arr (.st (.pair (.int .i64) .str)) []]
noncomputable def T0f:=yy T0l T0h T0v T0k
def T1l:List AV:=[(.ptr 0 0),(.int .i64 15),(.int .i64 24)]
def T1h:List AE.Obj :=
  [.cells [(.own 1),(.map 2),(.own 3),(.int .i64 26),(.own 4),(.int .i64 0),(.bool false)],
  .arr .str (List.replicate 16 Zs++[([76,0,0,0,0,0,1,0,0,0,0,0,1,0,0,10,175,100,78]++List.replicate 45 0)]++List.replicate 22 Zs),
  .mp .i64 .str [],
  .arr (.st (.pair (.int .i64) .str)) [],
  .arr (.int .i64) []]
def T1v:AV:=(.tup [(.ptr 5 0),(.int .i64 0)])
def T1k:List AE.Obj :=
  [.cells [(.own 1),(.map 2),(.own 6),(.int .i64 33),(.own 4),(.int .i64 0),(.bool false)],
  .arr .str (List.replicate 15 Zs++[([76,0,0,0,0,0,2,0,0,0,0,0,25,0,0,7,97,220,101]++List.replicate 45 0),([76,0,0,0,0,0,1,0,0,0,0,0,1,0,0,10,175,100,78]++List.replicate 45 0)]++List.replicate 22 Zs),
  .mp .i64 .str [],
  .arr (.st (.pair (.int .i64) .str)) [],
  .arr (.int .i64) [],
  .cells [(.ptr 0 0),(.ptr 7 0),(.ptr 8 0),(.int .i64 15),(.int .i64 24),(.int .i64 2),(.int .i64 0),(.int .i64 25),(.int .i64 0),(.bool false),(.bool false),(.ptr 9 0)],
  .arr (.st (.pair (.int .i64) .str)) [],
  .cells [(.ptr 0 0),(.int .i64 15),(.int .i64 2)],
  .cells [(.ptr 0 0),(.int .i64 17),(.int .i64 22)],
  .cells [(.map 10),(.map 11)],
  .mp .i64 .str [],
  .mp .i64 .str []]
noncomputable def T1f:=yy T1l T1h T1v T1k
def T2l:List AV:=[(.ptr 0 0),(.sub 1 0 3 1)]
def T2h:List AE.Obj :=
  [.cells [(.ptr 2 0),(.int .i64 0),(.int .i64 0),(.int .i64 0),(.int .i64 0),(.int .i64 3),(.int .i64 1),(.int .i64 24),(.ptr 3 0),(.ptr 4 0),(.ptr 5 0)],
  .cells [(.fn (.func 117) [(.ptr 3 0)] []),(.fn (.func 118) [] [(.ptr 6 0),(.ptr 7 0)]),(.fn (.func 120) [] [(.ptr 6 0),(.ptr 8 0),(.ptr 9 0)])],
  .cells [(.ptr 10 0),(.ptr 11 0),(.ptr 12 0),(.int .i64 15),(.int .i64 24),(.int .i64 2),(.int .i64 0),(.int .i64 25),(.int .i64 0),(.bool false),(.bool false),(.ptr 13 0)],
  .cells [(.ptr 2 0),(.int .i64 3),(.int .i64 1),(.int .i64 24)],
  .cells [(.ptr 2 0),(.int .i64 3),(.int .i64 1),(.int .i64 24)],
  .cells [(.int .i64 3),(.own 14)],
  .cells [(.ptr 2 0)],
  .cells [(.int .i64 0),(.int .i64 0),(.int .i64 0),(.int .i64 0),(.int .i64 3),(.int .i64 1),(.int .i64 24)],
  .cells [(.int .i64 3),(.int .i64 1),(.int .i64 24)],
  .cells [(.ptr 0 0)],
  .cells [(.own 15),(.map 16),(.own 17),(.int .i64 33),(.own 18),(.int .i64 0),(.bool false)],
  .cells [(.ptr 10 0),(.int .i64 15),(.int .i64 2)],
  .cells [(.ptr 10 0),(.int .i64 17),(.int .i64 22)],
  .cells [(.map 19),(.map 20)],
  .arr (.int .u8) [0],
  .arr .str (List.replicate 15 Zs++[([76,0,0,0,0,0,2,0,0,0,0,0,25,0,0,7,97,220,101]++List.replicate 45 0),([76,0,0,0,0,0,1,0,0,0,0,0,1,0,0,10,175,100,78]++List.replicate 45 0)]++List.replicate 22 Zs),
  .mp .i64 .str [],
  .arr (.st (.pair (.int .i64) .str)) [],
  .arr (.int .i64) [],
  .mp .i64 .str [],
  .mp .i64 .str []]
def T2v:AV:=(.int .i64 0)
def T2k:List AE.Obj :=
  [.cells [(.ptr 2 0),(.int .i64 0),(.int .i64 0),(.int .i64 0),(.int .i64 0),(.int .i64 3),(.int .i64 1),(.int .i64 24),(.ptr 3 0),(.ptr 4 0),(.ptr 5 0)],
  .cells [(.fn (.func 117) [(.ptr 3 0)] []),(.fn (.func 118) [] [(.ptr 6 0),(.ptr 7 0)]),(.fn (.func 120) [] [(.ptr 6 0),(.ptr 8 0),(.ptr 9 0)])],
  .cells [(.ptr 10 0),(.ptr 11 0),(.ptr 12 0),(.int .i64 15),(.int .i64 24),(.int .i64 2),(.int .i64 5),(.int .i64 26),(.int .i64 5),(.bool false),(.bool true),(.ptr 13 0)],
  .cells [(.ptr 2 0),(.int .i64 3),(.int .i64 1),(.int .i64 24)],
  .cells [(.ptr 2 0),(.int .i64 3),(.int .i64 1),(.int .i64 24)],
  .cells [(.int .i64 3),(.own 14)],
  .cells [(.ptr 2 0)],
  .cells [(.int .i64 0),(.int .i64 0),(.int .i64 0),(.int .i64 0),(.int .i64 3),(.int .i64 1),(.int .i64 24)],
  .cells [(.int .i64 3),(.int .i64 1),(.int .i64 24)],
  .cells [(.ptr 0 0)],
  .cells [(.own 15),(.map 16),(.own 17),(.int .i64 38),(.own 18),(.int .i64 0),(.bool false)],
  .cells [(.ptr 10 0),(.int .i64 15),(.int .i64 2)],
  .cells [(.ptr 10 0),(.int .i64 17),(.int .i64 22)],
  .cells [(.map 19),(.map 21)],
  .arr (.int .u8) [0],
  .arr .str (List.replicate 15 Zs++[([76,0,0,0,0,0,2,0,0,0,0,0,25,0,0,7,97,220,101]++List.replicate 45 0),([76,0,0,0,0,0,1,0,0,0,0,0,1,0,0,10,175,100,78]++List.replicate 45 0)]++List.replicate 22 Zs),
  .mp .i64 .str [(18,([83,0,0,0,0,0,0,0,3,1,0,24,28,19,43,48]++List.replicate 48 0)),(19,([74,3,0,199,130,97,169]++List.replicate 57 0)),(20,([69]++List.replicate 30 0++[231,223,105,83]++List.replicate 29 0)),(21,([69]++List.replicate 30 0++[231,223,105,83]++List.replicate 29 0)),(17,([82,0,0,0,0,0,25,4,0,0,0,1,0,2,0,3,117,167,109,229]++List.replicate 44 0))],
  .arr (.st (.pair (.int .i64) .str)) [(18,([83,0,0,0,0,0,0,0,3,1,0,24,28,19,43,48]++List.replicate 48 0)),(19,([74,3,0,199,130,97,169]++List.replicate 57 0)),(20,([69]++List.replicate 30 0++[231,223,105,83]++List.replicate 29 0)),(21,([69]++List.replicate 30 0++[231,223,105,83]++List.replicate 29 0)),(17,([82,0,0,0,0,0,25,4,0,0,0,1,0,2,0,3,117,167,109,229]++List.replicate 44 0))],
  .arr (.int .i64) [],
  .mp .i64 .str [(0,([83,0,0,0,0,0,0,0,3,1,0,24,28,19,43,48]++List.replicate 48 0)),(1,([74,3,0,199,130,97,169]++List.replicate 57 0)),(2,([69]++List.replicate 30 0++[231,223,105,83]++List.replicate 29 0)),(3,([69]++List.replicate 30 0++[231,223,105,83]++List.replicate 29 0))],
  .mp .i64 .str [(2,([69]++List.replicate 30 0++[231,223,105,83]++List.replicate 29 0)),(3,([69]++List.replicate 30 0++[231,223,105,83]++List.replicate 29 0)),(0,([83,0,0,0,0,0,0,0,3,1,0,24,28,19,43,48]++List.replicate 48 0)),(1,([74,3,0,199,130,97,169]++List.replicate 57 0))],
  .mp .i64 .str []]
noncomputable def T2f:=yy T2l T2h T2v T2k
def T3l:List AV:=[(.ptr 0 0),(.sub 1 0 1 1)]
def T3h:List AE.Obj :=
  [.cells [(.ptr 2 0),(.int .i64 0),(.int .i64 0),(.int .i64 0),(.int .i64 0),(.int .i64 3),(.int .i64 1),(.int .i64 24),(.ptr 3 0),(.ptr 4 0),(.ptr 5 0)],
  .cells [(.fn (.func 122) [(.ptr 4 0)] [])],
  .cells [(.ptr 6 0),(.ptr 7 0),(.ptr 8 0),(.int .i64 15),(.int .i64 24),(.int .i64 2),(.int .i64 5),(.int .i64 26),(.int .i64 5),(.bool false),(.bool true),(.ptr 9 0)],
  .cells [(.ptr 2 0),(.int .i64 3),(.int .i64 1),(.int .i64 24)],
  .cells [(.ptr 2 0),(.int .i64 3),(.int .i64 1),(.int .i64 24)],
  .cells [(.int .i64 3),(.own 10)],
  .cells [(.own 11),(.map 12),(.own 13),(.int .i64 38),(.own 14),(.int .i64 0),(.bool false)],
  .cells [(.ptr 6 0),(.int .i64 15),(.int .i64 2)],
  .cells [(.ptr 6 0),(.int .i64 17),(.int .i64 22)],
  .cells [(.map 15),(.map 16)],
  .arr (.int .u8) [0],
  .arr .str (List.replicate 15 Zs++[([76,0,0,0,0,0,2,0,0,0,0,0,25,0,0,7,97,220,101]++List.replicate 45 0),([76,0,0,0,0,0,1,0,0,0,0,0,1,0,0,10,175,100,78]++List.replicate 45 0)]++List.replicate 22 Zs),
  .mp .i64 .str [(18,([83,0,0,0,0,0,0,0,3,1,0,24,28,19,43,48]++List.replicate 48 0)),(19,([74,3,0,199,130,97,169]++List.replicate 57 0)),(20,([69]++List.replicate 30 0++[231,223,105,83]++List.replicate 29 0)),(21,([69]++List.replicate 30 0++[231,223,105,83]++List.replicate 29 0)),(17,([82,0,0,0,0,0,25,4,0,0,0,1,0,2,0,3,117,167,109,229]++List.replicate 44 0))],
  .arr (.st (.pair (.int .i64) .str)) [(18,([83,0,0,0,0,0,0,0,3,1,0,24,28,19,43,48]++List.replicate 48 0)),(19,([74,3,0,199,130,97,169]++List.replicate 57 0)),(20,([69]++List.replicate 30 0++[231,223,105,83]++List.replicate 29 0)),(21,([69]++List.replicate 30 0++[231,223,105,83]++List.replicate 29 0)),(17,([82,0,0,0,0,0,25,4,0,0,0,1,0,2,0,3,117,167,109,229]++List.replicate 44 0))],
  .arr (.int .i64) [],
  .mp .i64 .str [(0,([83,0,0,0,0,0,0,0,3,1,0,24,28,19,43,48]++List.replicate 48 0)),(1,([74,3,0,199,130,97,169]++List.replicate 57 0)),(2,([69]++List.replicate 30 0++[231,223,105,83]++List.replicate 29 0)),(3,([69]++List.replicate 30 0++[231,223,105,83]++List.replicate 29 0))],
  .mp .i64 .str []]
def T3v:AV:=(.int .i64 0)
def T3k:List AE.Obj :=
  [.cells [(.ptr 2 0),(.int .i64 0),(.int .i64 0),(.int .i64 0),(.int .i64 0),(.int .i64 3),(.int .i64 1),(.int .i64 24),(.ptr 3 0),(.ptr 4 0),(.ptr 5 0)],
  .cells [(.fn (.func 122) [(.ptr 4 0)] [])],
  .cells [(.ptr 6 0),(.ptr 7 0),(.ptr 8 0),(.int .i64 15),(.int .i64 24),(.int .i64 2),(.int .i64 7),(.int .i64 27),(.int .i64 7),(.bool false),(.bool true),(.ptr 9 0)],
  .cells [(.ptr 2 0),(.int .i64 3),(.int .i64 1),(.int .i64 24)],
  .cells [(.ptr 2 0),(.int .i64 3),(.int .i64 1),(.int .i64 24)],
  .cells [(.int .i64 3),(.own 10)],
  .cells [(.own 11),(.map 12),(.own 13),(.int .i64 40),(.own 14),(.int .i64 0),(.bool false)],
  .cells [(.ptr 6 0),(.int .i64 15),(.int .i64 2)],
  .cells [(.ptr 6 0),(.int .i64 17),(.int .i64 22)],
  .cells [(.map 15),(.map 17)],
  .arr (.int .u8) [0],
  .arr .str (List.replicate 15 Zs++[([76,0,0,0,0,0,2,0,0,0,0,0,25,0,0,7,97,220,101]++List.replicate 45 0),([76,0,0,0,0,0,1,0,0,0,0,0,1,0,0,10,175,100,78]++List.replicate 45 0)]++List.replicate 22 Zs),
  .mp .i64 .str [(18,([83,0,0,0,0,0,0,0,3,1,0,24,28,19,43,48]++List.replicate 48 0)),(19,([74,3,0,199,130,97,169]++List.replicate 57 0)),(20,([69]++List.replicate 30 0++[231,223,105,83]++List.replicate 29 0)),(21,([69]++List.replicate 30 0++[231,223,105,83]++List.replicate 29 0)),(17,([82,0,0,0,0,0,25,4,0,0,0,1,0,2,0,3,117,167,109,229]++List.replicate 44 0)),(23,Zs),(22,([82,0,0,0,0,0,26,1,0,10,83,154,189,196]++List.replicate 50 0))],
  .arr (.st (.pair (.int .i64) .str)) [(18,([83,0,0,0,0,0,0,0,3,1,0,24,28,19,43,48]++List.replicate 48 0)),(19,([74,3,0,199,130,97,169]++List.replicate 57 0)),(20,([69]++List.replicate 30 0++[231,223,105,83]++List.replicate 29 0)),(21,([69]++List.replicate 30 0++[231,223,105,83]++List.replicate 29 0)),(17,([82,0,0,0,0,0,25,4,0,0,0,1,0,2,0,3,117,167,109,229]++List.replicate 44 0)),(23,Zs),(22,([82,0,0,0,0,0,26,1,0,10,83,154,189,196]++List.replicate 50 0))],
  .arr (.int .i64) [],
  .mp .i64 .str [(0,([83,0,0,0,0,0,0,0,3,1,0,24,28,19,43,48]++List.replicate 48 0)),(1,([74,3,0,199,130,97,169]++List.replicate 57 0)),(2,([69]++List.replicate 30 0++[231,223,105,83]++List.replicate 29 0)),(3,([69]++List.replicate 30 0++[231,223,105,83]++List.replicate 29 0)),(10,Zs)],
  .mp .i64 .str [(10,Zs)],
  .mp .i64 .str []]
noncomputable def T3f:=yy T3l T3h T3v T3k
def T4l:List AV:=[(.ptr 0 0),(.sub 1 0 1 1)]
def T4h:List AE.Obj :=
  [.cells [(.ptr 2 0),(.int .i64 0),(.int .i64 0),(.int .i64 0),(.int .i64 0),(.int .i64 3),(.int .i64 1),(.int .i64 24),(.ptr 3 0),(.ptr 4 0),(.ptr 5 0)],
  .cells [(.fn (.func 123) [] [(.ptr 6 0),(.ptr 7 0),(.ptr 8 0),(.ptr 9 0)])],
  .cells [(.ptr 10 0),(.ptr 11 0),(.ptr 12 0),(.int .i64 15),(.int .i64 24),(.int .i64 2),(.int .i64 7),(.int .i64 27),(.int .i64 7),(.bool false),(.bool true),(.ptr 13 0)],
  .cells [(.ptr 2 0),(.int .i64 3),(.int .i64 1),(.int .i64 24)],
  .cells [(.ptr 2 0),(.int .i64 3),(.int .i64 1),(.int .i64 24)],
  .cells [(.int .i64 3),(.own 14)],
  .cells [(.ptr 2 0)],
  .cells [(.int .i64 3),(.int .i64 1),(.int .i64 24)],
  .cells [(.int .i64 0)],
  .cells [(.str (List.replicate 128 0))],
  .cells [(.own 15),(.map 16),(.own 17),(.int .i64 40),(.own 18),(.int .i64 0),(.bool false)],
  .cells [(.ptr 10 0),(.int .i64 15),(.int .i64 2)],
  .cells [(.ptr 10 0),(.int .i64 17),(.int .i64 22)],
  .cells [(.map 19),(.map 20)],
  .arr (.int .u8) [0],
  .arr .str (List.replicate 15 Zs++[([76,0,0,0,0,0,2,0,0,0,0,0,25,0,0,7,97,220,101]++List.replicate 45 0),([76,0,0,0,0,0,1,0,0,0,0,0,1,0,0,10,175,100,78]++List.replicate 45 0)]++List.replicate 22 Zs),
  .mp .i64 .str [(18,([83,0,0,0,0,0,0,0,3,1,0,24,28,19,43,48]++List.replicate 48 0)),(19,([74,3,0,199,130,97,169]++List.replicate 57 0)),(20,([69]++List.replicate 30 0++[231,223,105,83]++List.replicate 29 0)),(21,([69]++List.replicate 30 0++[231,223,105,83]++List.replicate 29 0)),(17,([82,0,0,0,0,0,25,4,0,0,0,1,0,2,0,3,117,167,109,229]++List.replicate 44 0)),(23,Zs),(22,([82,0,0,0,0,0,26,1,0,10,83,154,189,196]++List.replicate 50 0))],
  .arr (.st (.pair (.int .i64) .str)) [(18,([83,0,0,0,0,0,0,0,3,1,0,24,28,19,43,48]++List.replicate 48 0)),(19,([74,3,0,199,130,97,169]++List.replicate 57 0)),(20,([69]++List.replicate 30 0++[231,223,105,83]++List.replicate 29 0)),(21,([69]++List.replicate 30 0++[231,223,105,83]++List.replicate 29 0)),(17,([82,0,0,0,0,0,25,4,0,0,0,1,0,2,0,3,117,167,109,229]++List.replicate 44 0)),(23,Zs),(22,([82,0,0,0,0,0,26,1,0,10,83,154,189,196]++List.replicate 50 0))],
  .arr (.int .i64) [],
  .mp .i64 .str [(0,([83,0,0,0,0,0,0,0,3,1,0,24,28,19,43,48]++List.replicate 48 0)),(1,([74,3,0,199,130,97,169]++List.replicate 57 0)),(2,([69]++List.replicate 30 0++[231,223,105,83]++List.replicate 29 0)),(3,([69]++List.replicate 30 0++[231,223,105,83]++List.replicate 29 0)),(10,Zs)],
  .mp .i64 .str []]
def T4v:AV:=(.int .i64 0)
def T4k:List AE.Obj :=
  [.cells [(.ptr 2 0),(.int .i64 0),(.int .i64 0),(.int .i64 0),(.int .i64 0),(.int .i64 3),(.int .i64 1),(.int .i64 24),(.ptr 3 0),(.ptr 4 0),(.ptr 5 0)],
  .cells [(.fn (.func 123) [] [(.ptr 6 0),(.ptr 7 0),(.ptr 8 0),(.ptr 9 0)])],
  .cells [(.ptr 10 0),(.ptr 11 0),(.ptr 12 0),(.int .i64 15),(.int .i64 24),(.int .i64 2),(.int .i64 10),(.int .i64 28),(.int .i64 10),(.bool false),(.bool true),(.ptr 13 0)],
  .cells [(.ptr 2 0),(.int .i64 3),(.int .i64 1),(.int .i64 24)],
  .cells [(.ptr 2 0),(.int .i64 3),(.int .i64 1),(.int .i64 24)],
  .cells [(.int .i64 3),(.own 14)],
  .cells [(.ptr 2 0)],
  .cells [(.int .i64 3),(.int .i64 1),(.int .i64 24)],
  .cells [(.int .i64 0)],
  .cells [(.str (List.replicate 128 0))],
  .cells [(.own 15),(.map 16),(.own 17),(.int .i64 43),(.own 18),(.int .i64 0),(.bool false)],
  .cells [(.ptr 10 0),(.int .i64 15),(.int .i64 2)],
  .cells [(.ptr 10 0),(.int .i64 17),(.int .i64 22)],
  .cells [(.map 19),(.map 21)],
  .arr (.int .u8) [0],
  .arr .str (List.replicate 15 Zs++[([76,0,0,0,0,0,2,0,0,0,0,0,25,0,0,7,97,220,101]++List.replicate 45 0),([76,0,0,0,0,0,1,0,0,0,0,0,1,0,0,10,175,100,78]++List.replicate 45 0)]++List.replicate 22 Zs),
  .mp .i64 .str [(18,([83,0,0,0,0,0,0,0,3,1,0,24,28,19,43,48]++List.replicate 48 0)),(19,([74,3,0,199,130,97,169]++List.replicate 57 0)),(20,([69]++List.replicate 30 0++[231,223,105,83]++List.replicate 29 0)),(21,([69]++List.replicate 30 0++[231,223,105,83]++List.replicate 29 0)),(17,([82,0,0,0,0,0,25,4,0,0,0,1,0,2,0,3,117,167,109,229]++List.replicate 44 0)),(23,Zs),(22,([82,0,0,0,0,0,26,1,0,10,83,154,189,196]++List.replicate 50 0)),(25,Zs),(26,Zs),(24,([82,0,0,0,0,0,27,2,0,4,0,5,231,115,28,134]++List.replicate 48 0))],
  .arr (.st (.pair (.int .i64) .str)) [(18,([83,0,0,0,0,0,0,0,3,1,0,24,28,19,43,48]++List.replicate 48 0)),(19,([74,3,0,199,130,97,169]++List.replicate 57 0)),(20,([69]++List.replicate 30 0++[231,223,105,83]++List.replicate 29 0)),(21,([69]++List.replicate 30 0++[231,223,105,83]++List.replicate 29 0)),(17,([82,0,0,0,0,0,25,4,0,0,0,1,0,2,0,3,117,167,109,229]++List.replicate 44 0)),(23,Zs),(22,([82,0,0,0,0,0,26,1,0,10,83,154,189,196]++List.replicate 50 0)),(25,Zs),(26,Zs),(24,([82,0,0,0,0,0,27,2,0,4,0,5,231,115,28,134]++List.replicate 48 0))],
  .arr (.int .i64) [],
  .mp .i64 .str [(0,([83,0,0,0,0,0,0,0,3,1,0,24,28,19,43,48]++List.replicate 48 0)),(1,([74,3,0,199,130,97,169]++List.replicate 57 0)),(2,([69]++List.replicate 30 0++[231,223,105,83]++List.replicate 29 0)),(3,([69]++List.replicate 30 0++[231,223,105,83]++List.replicate 29 0)),(10,Zs),(4,Zs),(5,Zs)],
  .mp .i64 .str [(4,Zs),(5,Zs)],
  .mp .i64 .str []]
noncomputable def T4f:=yy T4l T4h T4v T4k
def T5l:List AV:=[(.ptr 0 0),(.sub 1 0 1 1)]
def T5h:List AE.Obj :=
  [.cells [(.ptr 2 0),(.int .i64 0),(.int .i64 0),(.int .i64 0),(.int .i64 0),(.int .i64 3),(.int .i64 1),(.int .i64 24),(.ptr 3 0),(.ptr 4 0),(.ptr 5 0)],
  .cells [(.fn (.func 123) [] [(.ptr 6 0),(.ptr 7 0),(.ptr 8 0),(.ptr 9 0)])],
  .cells [(.ptr 10 0),(.ptr 11 0),(.ptr 12 0),(.int .i64 15),(.int .i64 24),(.int .i64 2),(.int .i64 10),(.int .i64 28),(.int .i64 10),(.bool false),(.bool true),(.ptr 13 0)],
  .cells [(.ptr 2 0),(.int .i64 3),(.int .i64 1),(.int .i64 24)],
  .cells [(.ptr 2 0),(.int .i64 3),(.int .i64 1),(.int .i64 24)],
  .cells [(.int .i64 3),(.own 14)],
  .cells [(.ptr 2 0)],
  .cells [(.int .i64 3),(.int .i64 1),(.int .i64 24)],
  .cells [(.int .i64 1)],
  .cells [(.str (List.replicate 128 0))],
  .cells [(.own 15),(.map 16),(.own 17),(.int .i64 43),(.own 18),(.int .i64 0),(.bool false)],
  .cells [(.ptr 10 0),(.int .i64 15),(.int .i64 2)],
  .cells [(.ptr 10 0),(.int .i64 17),(.int .i64 22)],
  .cells [(.map 19),(.map 20)],
  .arr (.int .u8) [0],
  .arr .str (List.replicate 15 Zs++[([76,0,0,0,0,0,2,0,0,0,0,0,25,0,0,7,97,220,101]++List.replicate 45 0),([76,0,0,0,0,0,1,0,0,0,0,0,1,0,0,10,175,100,78]++List.replicate 45 0)]++List.replicate 22 Zs),
  .mp .i64 .str [(18,([83,0,0,0,0,0,0,0,3,1,0,24,28,19,43,48]++List.replicate 48 0)),(19,([74,3,0,199,130,97,169]++List.replicate 57 0)),(20,([69]++List.replicate 30 0++[231,223,105,83]++List.replicate 29 0)),(21,([69]++List.replicate 30 0++[231,223,105,83]++List.replicate 29 0)),(17,([82,0,0,0,0,0,25,4,0,0,0,1,0,2,0,3,117,167,109,229]++List.replicate 44 0)),(23,Zs),(22,([82,0,0,0,0,0,26,1,0,10,83,154,189,196]++List.replicate 50 0)),(25,Zs),(26,Zs),(24,([82,0,0,0,0,0,27,2,0,4,0,5,231,115,28,134]++List.replicate 48 0))],
  .arr (.st (.pair (.int .i64) .str)) [(18,([83,0,0,0,0,0,0,0,3,1,0,24,28,19,43,48]++List.replicate 48 0)),(19,([74,3,0,199,130,97,169]++List.replicate 57 0)),(20,([69]++List.replicate 30 0++[231,223,105,83]++List.replicate 29 0)),(21,([69]++List.replicate 30 0++[231,223,105,83]++List.replicate 29 0)),(17,([82,0,0,0,0,0,25,4,0,0,0,1,0,2,0,3,117,167,109,229]++List.replicate 44 0)),(23,Zs),(22,([82,0,0,0,0,0,26,1,0,10,83,154,189,196]++List.replicate 50 0)),(25,Zs),(26,Zs),(24,([82,0,0,0,0,0,27,2,0,4,0,5,231,115,28,134]++List.replicate 48 0))],
  .arr (.int .i64) [],
  .mp .i64 .str [(0,([83,0,0,0,0,0,0,0,3,1,0,24,28,19,43,48]++List.replicate 48 0)),(1,([74,3,0,199,130,97,169]++List.replicate 57 0)),(2,([69]++List.replicate 30 0++[231,223,105,83]++List.replicate 29 0)),(3,([69]++List.replicate 30 0++[231,223,105,83]++List.replicate 29 0)),(10,Zs),(4,Zs),(5,Zs)],
  .mp .i64 .str []]
def T5v:AV:=(.int .i64 0)
def T5k:List AE.Obj :=
  [.cells [(.ptr 2 0),(.int .i64 0),(.int .i64 0),(.int .i64 0),(.int .i64 0),(.int .i64 3),(.int .i64 1),(.int .i64 24),(.ptr 3 0),(.ptr 4 0),(.ptr 5 0)],
  .cells [(.fn (.func 123) [] [(.ptr 6 0),(.ptr 7 0),(.ptr 8 0),(.ptr 9 0)])],
  .cells [(.ptr 10 0),(.ptr 11 0),(.ptr 12 0),(.int .i64 15),(.int .i64 24),(.int .i64 2),(.int .i64 13),(.int .i64 29),(.int .i64 13),(.bool false),(.bool true),(.ptr 13 0)],
  .cells [(.ptr 2 0),(.int .i64 3),(.int .i64 1),(.int .i64 24)],
  .cells [(.ptr 2 0),(.int .i64 3),(.int .i64 1),(.int .i64 24)],
  .cells [(.int .i64 3),(.own 14)],
  .cells [(.ptr 2 0)],
  .cells [(.int .i64 3),(.int .i64 1),(.int .i64 24)],
  .cells [(.int .i64 1)],
  .cells [(.str (List.replicate 128 0))],
  .cells [(.own 15),(.map 16),(.own 17),(.int .i64 46),(.own 18),(.int .i64 0),(.bool false)],
  .cells [(.ptr 10 0),(.int .i64 15),(.int .i64 2)],
  .cells [(.ptr 10 0),(.int .i64 17),(.int .i64 22)],
  .cells [(.map 19),(.map 21)],
  .arr (.int .u8) [0],
  .arr .str (List.replicate 15 Zs++[([76,0,0,0,0,0,2,0,0,0,0,0,25,0,0,7,97,220,101]++List.replicate 45 0),([76,0,0,0,0,0,1,0,0,0,0,0,1,0,0,10,175,100,78]++List.replicate 45 0)]++List.replicate 22 Zs),
  .mp .i64 .str [(18,([83,0,0,0,0,0,0,0,3,1,0,24,28,19,43,48]++List.replicate 48 0)),(19,([74,3,0,199,130,97,169]++List.replicate 57 0)),(20,([69]++List.replicate 30 0++[231,223,105,83]++List.replicate 29 0)),(21,([69]++List.replicate 30 0++[231,223,105,83]++List.replicate 29 0)),(17,([82,0,0,0,0,0,25,4,0,0,0,1,0,2,0,3,117,167,109,229]++List.replicate 44 0)),(23,Zs),(22,([82,0,0,0,0,0,26,1,0,10,83,154,189,196]++List.replicate 50 0)),(25,Zs),(26,Zs),(24,([82,0,0,0,0,0,27,2,0,4,0,5,231,115,28,134]++List.replicate 48 0)),(28,Zs),(29,Zs),(27,([82,0,0,0,0,0,28,2,0,6,0,7,223,196,140,108]++List.replicate 48 0))],
  .arr (.st (.pair (.int .i64) .str)) [(18,([83,0,0,0,0,0,0,0,3,1,0,24,28,19,43,48]++List.replicate 48 0)),(19,([74,3,0,199,130,97,169]++List.replicate 57 0)),(20,([69]++List.replicate 30 0++[231,223,105,83]++List.replicate 29 0)),(21,([69]++List.replicate 30 0++[231,223,105,83]++List.replicate 29 0)),(17,([82,0,0,0,0,0,25,4,0,0,0,1,0,2,0,3,117,167,109,229]++List.replicate 44 0)),(23,Zs),(22,([82,0,0,0,0,0,26,1,0,10,83,154,189,196]++List.replicate 50 0)),(25,Zs),(26,Zs),(24,([82,0,0,0,0,0,27,2,0,4,0,5,231,115,28,134]++List.replicate 48 0)),(28,Zs),(29,Zs),(27,([82,0,0,0,0,0,28,2,0,6,0,7,223,196,140,108]++List.replicate 48 0))],
  .arr (.int .i64) [],
  .mp .i64 .str [(0,([83,0,0,0,0,0,0,0,3,1,0,24,28,19,43,48]++List.replicate 48 0)),(1,([74,3,0,199,130,97,169]++List.replicate 57 0)),(2,([69]++List.replicate 30 0++[231,223,105,83]++List.replicate 29 0)),(3,([69]++List.replicate 30 0++[231,223,105,83]++List.replicate 29 0)),(10,Zs),(4,Zs),(5,Zs),(6,Zs),(7,Zs)],
  .mp .i64 .str [(6,Zs),(7,Zs)],
  .mp .i64 .str []]
noncomputable def T5f:=yy T5l T5h T5v T5k
def T6l:List AV:=[(.ptr 0 0),(.sub 1 0 1 1)]
def T6h:List AE.Obj :=
  [.cells [(.ptr 2 0),(.int .i64 0),(.int .i64 0),(.int .i64 0),(.int .i64 0),(.int .i64 3),(.int .i64 1),(.int .i64 24),(.ptr 3 0),(.ptr 4 0),(.ptr 5 0)],
  .cells [(.fn (.func 123) [] [(.ptr 6 0),(.ptr 7 0),(.ptr 8 0),(.ptr 9 0)])],
  .cells [(.ptr 10 0),(.ptr 11 0),(.ptr 12 0),(.int .i64 15),(.int .i64 24),(.int .i64 2),(.int .i64 13),(.int .i64 29),(.int .i64 13),(.bool false),(.bool true),(.ptr 13 0)],
  .cells [(.ptr 2 0),(.int .i64 3),(.int .i64 1),(.int .i64 24)],
  .cells [(.ptr 2 0),(.int .i64 3),(.int .i64 1),(.int .i64 24)],
  .cells [(.int .i64 3),(.own 14)],
  .cells [(.ptr 2 0)],
  .cells [(.int .i64 3),(.int .i64 1),(.int .i64 24)],
  .cells [(.int .i64 2)],
  .cells [(.str (List.replicate 128 0))],
  .cells [(.own 15),(.map 16),(.own 17),(.int .i64 46),(.own 18),(.int .i64 0),(.bool false)],
  .cells [(.ptr 10 0),(.int .i64 15),(.int .i64 2)],
  .cells [(.ptr 10 0),(.int .i64 17),(.int .i64 22)],
  .cells [(.map 19),(.map 20)],
  .arr (.int .u8) [0],
  .arr .str (List.replicate 15 Zs++[([76,0,0,0,0,0,2,0,0,0,0,0,25,0,0,7,97,220,101]++List.replicate 45 0),([76,0,0,0,0,0,1,0,0,0,0,0,1,0,0,10,175,100,78]++List.replicate 45 0)]++List.replicate 22 Zs),
  .mp .i64 .str [(18,([83,0,0,0,0,0,0,0,3,1,0,24,28,19,43,48]++List.replicate 48 0)),(19,([74,3,0,199,130,97,169]++List.replicate 57 0)),(20,([69]++List.replicate 30 0++[231,223,105,83]++List.replicate 29 0)),(21,([69]++List.replicate 30 0++[231,223,105,83]++List.replicate 29 0)),(17,([82,0,0,0,0,0,25,4,0,0,0,1,0,2,0,3,117,167,109,229]++List.replicate 44 0)),(23,Zs),(22,([82,0,0,0,0,0,26,1,0,10,83,154,189,196]++List.replicate 50 0)),(25,Zs),(26,Zs),(24,([82,0,0,0,0,0,27,2,0,4,0,5,231,115,28,134]++List.replicate 48 0)),(28,Zs),(29,Zs),(27,([82,0,0,0,0,0,28,2,0,6,0,7,223,196,140,108]++List.replicate 48 0))],
  .arr (.st (.pair (.int .i64) .str)) [(18,([83,0,0,0,0,0,0,0,3,1,0,24,28,19,43,48]++List.replicate 48 0)),(19,([74,3,0,199,130,97,169]++List.replicate 57 0)),(20,([69]++List.replicate 30 0++[231,223,105,83]++List.replicate 29 0)),(21,([69]++List.replicate 30 0++[231,223,105,83]++List.replicate 29 0)),(17,([82,0,0,0,0,0,25,4,0,0,0,1,0,2,0,3,117,167,109,229]++List.replicate 44 0)),(23,Zs),(22,([82,0,0,0,0,0,26,1,0,10,83,154,189,196]++List.replicate 50 0)),(25,Zs),(26,Zs),(24,([82,0,0,0,0,0,27,2,0,4,0,5,231,115,28,134]++List.replicate 48 0)),(28,Zs),(29,Zs),(27,([82,0,0,0,0,0,28,2,0,6,0,7,223,196,140,108]++List.replicate 48 0))],
  .arr (.int .i64) [],
  .mp .i64 .str [(0,([83,0,0,0,0,0,0,0,3,1,0,24,28,19,43,48]++List.replicate 48 0)),(1,([74,3,0,199,130,97,169]++List.replicate 57 0)),(2,([69]++List.replicate 30 0++[231,223,105,83]++List.replicate 29 0)),(3,([69]++List.replicate 30 0++[231,223,105,83]++List.replicate 29 0)),(10,Zs),(4,Zs),(5,Zs),(6,Zs),(7,Zs)],
  .mp .i64 .str []]
def T6v:AV:=(.int .i64 0)
def T6k:List AE.Obj :=
  [.cells [(.ptr 2 0),(.int .i64 0),(.int .i64 0),(.int .i64 0),(.int .i64 0),(.int .i64 3),(.int .i64 1),(.int .i64 24),(.ptr 3 0),(.ptr 4 0),(.ptr 5 0)],
  .cells [(.fn (.func 123) [] [(.ptr 6 0),(.ptr 7 0),(.ptr 8 0),(.ptr 9 0)])],
  .cells [(.ptr 10 0),(.ptr 11 0),(.ptr 12 0),(.int .i64 15),(.int .i64 24),(.int .i64 2),(.int .i64 16),(.int .i64 30),(.int .i64 16),(.bool false),(.bool true),(.ptr 13 0)],
  .cells [(.ptr 2 0),(.int .i64 3),(.int .i64 1),(.int .i64 24)],
  .cells [(.ptr 2 0),(.int .i64 3),(.int .i64 1),(.int .i64 24)],
  .cells [(.int .i64 3),(.own 14)],
  .cells [(.ptr 2 0)],
  .cells [(.int .i64 3),(.int .i64 1),(.int .i64 24)],
  .cells [(.int .i64 2)],
  .cells [(.str (List.replicate 128 0))],
  .cells [(.own 15),(.map 16),(.own 17),(.int .i64 49),(.own 18),(.int .i64 0),(.bool false)],
  .cells [(.ptr 10 0),(.int .i64 15),(.int .i64 2)],
  .cells [(.ptr 10 0),(.int .i64 17),(.int .i64 22)],
  .cells [(.map 19),(.map 21)],
  .arr (.int .u8) [0],
  .arr .str (List.replicate 15 Zs++[([76,0,0,0,0,0,2,0,0,0,0,0,25,0,0,7,97,220,101]++List.replicate 45 0),([76,0,0,0,0,0,1,0,0,0,0,0,1,0,0,10,175,100,78]++List.replicate 45 0)]++List.replicate 22 Zs),
  .mp .i64 .str [(18,([83,0,0,0,0,0,0,0,3,1,0,24,28,19,43,48]++List.replicate 48 0)),(19,([74,3,0,199,130,97,169]++List.replicate 57 0)),(20,([69]++List.replicate 30 0++[231,223,105,83]++List.replicate 29 0)),(21,([69]++List.replicate 30 0++[231,223,105,83]++List.replicate 29 0)),(17,([82,0,0,0,0,0,25,4,0,0,0,1,0,2,0,3,117,167,109,229]++List.replicate 44 0)),(23,Zs),(22,([82,0,0,0,0,0,26,1,0,10,83,154,189,196]++List.replicate 50 0)),(25,Zs),(26,Zs),(24,([82,0,0,0,0,0,27,2,0,4,0,5,231,115,28,134]++List.replicate 48 0)),(28,Zs),(29,Zs),(27,([82,0,0,0,0,0,28,2,0,6,0,7,223,196,140,108]++List.replicate 48 0)),(31,Zs),(32,Zs),(30,([82,0,0,0,0,0,29,2,0,8,0,9,71,94,147,107]++List.replicate 48 0))],
  .arr (.st (.pair (.int .i64) .str)) [(18,([83,0,0,0,0,0,0,0,3,1,0,24,28,19,43,48]++List.replicate 48 0)),(19,([74,3,0,199,130,97,169]++List.replicate 57 0)),(20,([69]++List.replicate 30 0++[231,223,105,83]++List.replicate 29 0)),(21,([69]++List.replicate 30 0++[231,223,105,83]++List.replicate 29 0)),(17,([82,0,0,0,0,0,25,4,0,0,0,1,0,2,0,3,117,167,109,229]++List.replicate 44 0)),(23,Zs),(22,([82,0,0,0,0,0,26,1,0,10,83,154,189,196]++List.replicate 50 0)),(25,Zs),(26,Zs),(24,([82,0,0,0,0,0,27,2,0,4,0,5,231,115,28,134]++List.replicate 48 0)),(28,Zs),(29,Zs),(27,([82,0,0,0,0,0,28,2,0,6,0,7,223,196,140,108]++List.replicate 48 0)),(31,Zs),(32,Zs),(30,([82,0,0,0,0,0,29,2,0,8,0,9,71,94,147,107]++List.replicate 48 0))],
  .arr (.int .i64) [],
  .mp .i64 .str [(0,([83,0,0,0,0,0,0,0,3,1,0,24,28,19,43,48]++List.replicate 48 0)),(1,([74,3,0,199,130,97,169]++List.replicate 57 0)),(2,([69]++List.replicate 30 0++[231,223,105,83]++List.replicate 29 0)),(3,([69]++List.replicate 30 0++[231,223,105,83]++List.replicate 29 0)),(10,Zs),(4,Zs),(5,Zs),(6,Zs),(7,Zs),(8,Zs),(9,Zs)],
  .mp .i64 .str [(8,Zs),(9,Zs)],
  .mp .i64 .str []]
noncomputable def T6f:=yy T6l T6h T6v T6k
def T7l:List AV:=[(.ptr 0 0)]
def T7h:List AE.Obj :=
  [.cells [(.ptr 1 0),(.ptr 2 0),(.ptr 3 0),(.int .i64 15),(.int .i64 24),(.int .i64 2),(.int .i64 16),(.int .i64 30),(.int .i64 16),(.bool false),(.bool true),(.ptr 4 0)],
  .cells [(.own 5),(.map 6),(.own 7),(.int .i64 49),(.own 8),(.int .i64 0),(.bool false)],
  .cells [(.ptr 1 0),(.int .i64 15),(.int .i64 2)],
  .cells [(.ptr 1 0),(.int .i64 17),(.int .i64 22)],
  .cells [(.map 9),(.map 10)],
  .arr .str (List.replicate 15 Zs++[([76,0,0,0,0,0,2,0,0,0,0,0,25,0,0,7,97,220,101]++List.replicate 45 0),([76,0,0,0,0,0,1,0,0,0,0,0,1,0,0,10,175,100,78]++List.replicate 45 0)]++List.replicate 22 Zs),
  .mp .i64 .str [(18,([83,0,0,0,0,0,0,0,3,1,0,24,28,19,43,48]++List.replicate 48 0)),(19,([74,3,0,199,130,97,169]++List.replicate 57 0)),(20,([69]++List.replicate 30 0++[231,223,105,83]++List.replicate 29 0)),(21,([69]++List.replicate 30 0++[231,223,105,83]++List.replicate 29 0)),(17,([82,0,0,0,0,0,25,4,0,0,0,1,0,2,0,3,117,167,109,229]++List.replicate 44 0)),(23,Zs),(22,([82,0,0,0,0,0,26,1,0,10,83,154,189,196]++List.replicate 50 0)),(25,Zs),(26,Zs),(24,([82,0,0,0,0,0,27,2,0,4,0,5,231,115,28,134]++List.replicate 48 0)),(28,Zs),(29,Zs),(27,([82,0,0,0,0,0,28,2,0,6,0,7,223,196,140,108]++List.replicate 48 0)),(31,Zs),(32,Zs),(30,([82,0,0,0,0,0,29,2,0,8,0,9,71,94,147,107]++List.replicate 48 0))],
  .arr (.st (.pair (.int .i64) .str)) [(18,([83,0,0,0,0,0,0,0,3,1,0,24,28,19,43,48]++List.replicate 48 0)),(19,([74,3,0,199,130,97,169]++List.replicate 57 0)),(20,([69]++List.replicate 30 0++[231,223,105,83]++List.replicate 29 0)),(21,([69]++List.replicate 30 0++[231,223,105,83]++List.replicate 29 0)),(17,([82,0,0,0,0,0,25,4,0,0,0,1,0,2,0,3,117,167,109,229]++List.replicate 44 0)),(23,Zs),(22,([82,0,0,0,0,0,26,1,0,10,83,154,189,196]++List.replicate 50 0)),(25,Zs),(26,Zs),(24,([82,0,0,0,0,0,27,2,0,4,0,5,231,115,28,134]++List.replicate 48 0)),(28,Zs),(29,Zs),(27,([82,0,0,0,0,0,28,2,0,6,0,7,223,196,140,108]++List.replicate 48 0)),(31,Zs),(32,Zs),(30,([82,0,0,0,0,0,29,2,0,8,0,9,71,94,147,107]++List.replicate 48 0))],
  .arr (.int .i64) [],
  .mp .i64 .str [(0,([83,0,0,0,0,0,0,0,3,1,0,24,28,19,43,48]++List.replicate 48 0)),(1,([74,3,0,199,130,97,169]++List.replicate 57 0)),(2,([69]++List.replicate 30 0++[231,223,105,83]++List.replicate 29 0)),(3,([69]++List.replicate 30 0++[231,223,105,83]++List.replicate 29 0)),(10,Zs),(4,Zs),(5,Zs),(6,Zs),(7,Zs),(8,Zs),(9,Zs)],
  .mp .i64 .str []]
def T7v:AV:=(.int .i64 0)
def T7k:List AE.Obj :=
  [.cells [(.ptr 1 0),(.ptr 2 0),(.ptr 3 0),(.int .i64 15),(.int .i64 24),(.int .i64 3),(.int .i64 16),(.int .i64 30),(.int .i64 0),(.bool false),(.bool false),(.ptr 4 0)],
  .cells [(.own 5),(.map 6),(.own 11),(.int .i64 64),(.own 8),(.int .i64 0),(.bool false)],
  .cells [(.ptr 1 0),(.int .i64 15),(.int .i64 2)],
  .cells [(.ptr 1 0),(.int .i64 17),(.int .i64 22)],
  .cells [(.map 12),(.map 10)],
  .arr .str ([([83,0,0,0,0,0,0,0,3,1,0,24,28,19,43,48]++List.replicate 48 0),([74,3,0,199,130,97,169]++List.replicate 57 0),([69]++List.replicate 30 0++[231,223,105,83]++List.replicate 29 0),([69]++List.replicate 30 0++[231,223,105,83]++List.replicate 29 0)]++List.replicate 11 Zs++[([76,0,0,0,0,0,2,0,0,0,0,0,25,0,0,7,97,220,101]++List.replicate 45 0),([76,0,0,0,0,0,3,0,0,0,0,0,30,0,16,165,115,95,106]++List.replicate 45 0),([82,0,0,0,0,0,25,4,0,0,0,1,0,2,0,3,117,167,109,229]++List.replicate 44 0),([83,0,0,0,0,0,0,0,3,1,0,24,28,19,43,48]++List.replicate 48 0),([74,3,0,199,130,97,169]++List.replicate 57 0),([69]++List.replicate 30 0++[231,223,105,83]++List.replicate 29 0),([69]++List.replicate 30 0++[231,223,105,83]++List.replicate 29 0),([82,0,0,0,0,0,26,1,0,10,83,154,189,196]++List.replicate 50 0),Zs,([82,0,0,0,0,0,27,2,0,4,0,5,231,115,28,134]++List.replicate 48 0),Zs,Zs,([82,0,0,0,0,0,28,2,0,6,0,7,223,196,140,108]++List.replicate 48 0),Zs,Zs,([82,0,0,0,0,0,29,2,0,8,0,9,71,94,147,107]++List.replicate 48 0)]++List.replicate 8 Zs),
  .mp .i64 .str [],
  .arr (.st (.pair (.int .i64) .str)) [(18,([83,0,0,0,0,0,0,0,3,1,0,24,28,19,43,48]++List.replicate 48 0)),(19,([74,3,0,199,130,97,169]++List.replicate 57 0)),(20,([69]++List.replicate 30 0++[231,223,105,83]++List.replicate 29 0)),(21,([69]++List.replicate 30 0++[231,223,105,83]++List.replicate 29 0)),(17,([82,0,0,0,0,0,25,4,0,0,0,1,0,2,0,3,117,167,109,229]++List.replicate 44 0)),(23,Zs),(22,([82,0,0,0,0,0,26,1,0,10,83,154,189,196]++List.replicate 50 0)),(25,Zs),(26,Zs),(24,([82,0,0,0,0,0,27,2,0,4,0,5,231,115,28,134]++List.replicate 48 0)),(28,Zs),(29,Zs),(27,([82,0,0,0,0,0,28,2,0,6,0,7,223,196,140,108]++List.replicate 48 0)),(31,Zs),(32,Zs),(30,([82,0,0,0,0,0,29,2,0,8,0,9,71,94,147,107]++List.replicate 48 0))],
  .arr (.int .i64) [],
  .mp .i64 .str [(0,([83,0,0,0,0,0,0,0,3,1,0,24,28,19,43,48]++List.replicate 48 0)),(1,([74,3,0,199,130,97,169]++List.replicate 57 0)),(2,([69]++List.replicate 30 0++[231,223,105,83]++List.replicate 29 0)),(3,([69]++List.replicate 30 0++[231,223,105,83]++List.replicate 29 0)),(10,Zs),(4,Zs),(5,Zs),(6,Zs),(7,Zs),(8,Zs),(9,Zs)],
  .mp .i64 .str [],
  .arr (.st (.pair (.int .i64) .str)) [],
  .mp .i64 .str []]
noncomputable def T7f:=yy T7l T7h T7v T7k
def T8l:List AV:=[(.ptr 0 0),(.agg [(.int .i64 0),(.int .i64 0),(.int .i64 0),(.int .i64 0),(.int .i64 3),(.int .i64 1),(.int .i64 24)])]
def T8h:List AE.Obj :=
  [.cells [(.own 1),(.map 2),(.own 3),(.int .i64 0),(.own 4),(.int .i64 0),(.bool false)],
  .arr .str (List.replicate 39 Zs),
  .mp .i64 .str [],
  .arr (.st (.pair (.int .i64) .str)) [],
  .arr (.int .i64) []]
def T8v:AV:=(.int .i64 0)
def T8k:List AE.Obj :=
  [.cells [(.own 1),(.map 2),(.own 5),(.int .i64 64),(.own 4),(.int .i64 0),(.bool false)],
  .arr .str ([([83,0,0,0,0,0,0,0,3,1,0,24,28,19,43,48]++List.replicate 48 0),([74,3,0,199,130,97,169]++List.replicate 57 0),([69]++List.replicate 30 0++[231,223,105,83]++List.replicate 29 0),([69]++List.replicate 30 0++[231,223,105,83]++List.replicate 29 0)]++List.replicate 11 Zs++[([76,0,0,0,0,0,2,0,0,0,0,0,25,0,0,7,97,220,101]++List.replicate 45 0),([76,0,0,0,0,0,3,0,0,0,0,0,30,0,16,165,115,95,106]++List.replicate 45 0),([82,0,0,0,0,0,25,4,0,0,0,1,0,2,0,3,117,167,109,229]++List.replicate 44 0),([83,0,0,0,0,0,0,0,3,1,0,24,28,19,43,48]++List.replicate 48 0),([74,3,0,199,130,97,169]++List.replicate 57 0),([69]++List.replicate 30 0++[231,223,105,83]++List.replicate 29 0),([69]++List.replicate 30 0++[231,223,105,83]++List.replicate 29 0),([82,0,0,0,0,0,26,1,0,10,83,154,189,196]++List.replicate 50 0),Zs,([82,0,0,0,0,0,27,2,0,4,0,5,231,115,28,134]++List.replicate 48 0),Zs,Zs,([82,0,0,0,0,0,28,2,0,6,0,7,223,196,140,108]++List.replicate 48 0),Zs,Zs,([82,0,0,0,0,0,29,2,0,8,0,9,71,94,147,107]++List.replicate 48 0)]++List.replicate 8 Zs),
  .mp .i64 .str [],
  .arr (.st (.pair (.int .i64) .str)) [(15,Zs),(16,Zs),(17,Zs),(18,Zs),(19,Zs),(20,Zs),(21,Zs),(22,Zs),(23,Zs),(24,Zs),(25,Zs),(26,Zs),(27,Zs),(28,Zs),(29,Zs),(30,Zs),(31,Zs),(32,Zs),(33,Zs),(34,Zs),(35,Zs),(36,Zs),(37,Zs),(38,Zs),(16,([76,0,0,0,0,0,1,0,0,0,0,0,1,0,0,10,175,100,78]++List.replicate 45 0))],
  .arr (.int .i64) [],
  .arr (.st (.pair (.int .i64) .str)) []]
noncomputable def T8f:=yy T8l T8h T8v T8k
def T9l:List AV:=[(.ptr 0 0),(.int .i64 15),(.int .i64 24)]
def T9h:List AE.Obj :=
  [.cells [(.own 1),(.map 2),(.own 3),(.int .i64 65),(.own 4),(.int .i64 0),(.bool false)],
  .arr .str ([([83,0,0,0,0,0,0,0,3,1,0,24,28,19,43,48]++List.replicate 48 0),([74,3,0,199,130,97,169]++List.replicate 57 0),([69]++List.replicate 30 0++[231,223,105,83]++List.replicate 29 0),([69]++List.replicate 30 0++[231,223,105,83]++List.replicate 29 0)]++List.replicate 11 Zs++[([76,0,0,0,0,0,2,0,0,0,0,0,25,0,0,7,97,220,101]++List.replicate 45 0),([76,0,0,0,0,0,3,0,0,0,0,0,30,0,16,165,115,95,106]++List.replicate 45 0),([82,0,0,0,0,0,25,4,0,0,0,1,0,2,0,3,117,167,109,229]++List.replicate 44 0),([83,0,0,0,0,0,0,0,3,1,0,24,28,19,43,48]++List.replicate 48 0),([74,3,0,199,130,97,169]++List.replicate 57 0),([69]++List.replicate 30 0++[231,223,105,83]++List.replicate 29 0),([69]++List.replicate 30 0++[231,223,105,83]++List.replicate 29 0),([82,0,0,0,0,0,26,1,0,10,83,154,189,196]++List.replicate 50 0),Zs,([82,0,0,0,0,0,27,2,0,4,0,5,231,115,28,134]++List.replicate 48 0),Zs,Zs,([82,0,0,0,0,0,28,2,0,6,0,7,223,196,140,108]++List.replicate 48 0),Zs,Zs,([82,0,0,0,0,0,29,2,0,8,0,9,71,94,147,107]++List.replicate 48 0)]++List.replicate 8 Zs),
  .mp .i64 .str [],
  .arr (.st (.pair (.int .i64) .str)) [],
  .arr (.int .i64) []]
def T9v:AV:=(.tup [(.ptr 5 0),(.int .i64 0)])
def T9k:List AE.Obj :=
  [.cells [(.own 1),(.map 2),(.own 6),(.int .i64 72),(.own 4),(.int .i64 0),(.bool false)],
  .arr .str ([([83,0,0,0,0,0,0,0,3,1,0,24,28,19,43,48]++List.replicate 48 0),([74,3,0,199,130,97,169]++List.replicate 57 0),([69]++List.replicate 30 0++[231,223,105,83]++List.replicate 29 0),([69]++List.replicate 30 0++[231,223,105,83]++List.replicate 29 0)]++List.replicate 11 Zs++[([76,0,0,0,0,0,4,0,0,0,0,0,54,0,0,80,25,215,37]++List.replicate 45 0),([76,0,0,0,0,0,3,0,0,0,0,0,30,0,16,165,115,95,106]++List.replicate 45 0),([82,0,0,0,0,0,25,4,0,0,0,1,0,2,0,3,117,167,109,229]++List.replicate 44 0),([83,0,0,0,0,0,0,0,3,1,0,24,28,19,43,48]++List.replicate 48 0),([74,3,0,199,130,97,169]++List.replicate 57 0),([69]++List.replicate 30 0++[231,223,105,83]++List.replicate 29 0),([69]++List.replicate 30 0++[231,223,105,83]++List.replicate 29 0),([82,0,0,0,0,0,26,1,0,10,83,154,189,196]++List.replicate 50 0),Zs,([82,0,0,0,0,0,27,2,0,4,0,5,231,115,28,134]++List.replicate 48 0),Zs,Zs,([82,0,0,0,0,0,28,2,0,6,0,7,223,196,140,108]++List.replicate 48 0),Zs,Zs,([82,0,0,0,0,0,29,2,0,8,0,9,71,94,147,107]++List.replicate 48 0)]++List.replicate 8 Zs),
  .mp .i64 .str [],
  .arr (.st (.pair (.int .i64) .str)) [],
  .arr (.int .i64) [],
  .cells [(.ptr 0 0),(.ptr 7 0),(.ptr 8 0),(.int .i64 15),(.int .i64 24),(.int .i64 4),(.int .i64 0),(.int .i64 54),(.int .i64 0),(.bool false),(.bool false),(.ptr 9 0)],
  .arr (.st (.pair (.int .i64) .str)) [],
  .cells [(.ptr 0 0),(.int .i64 15),(.int .i64 2)],
  .cells [(.ptr 0 0),(.int .i64 17),(.int .i64 22)],
  .cells [(.map 10),(.map 11)],
  .mp .i64 .str [],
  .mp .i64 .str []]
noncomputable def T9f:=yy T9l T9h T9v T9k
def zTF:List AV:=[(.ptr 0 0)]
def zTP:List AE.Obj :=
  [.cells [(.own 1),(.map 2),(.own 3),(.int .i64 64),(.own 4),(.int .i64 0),(.bool false)],
  .arr .str ([([83,0,0,0,0,0,0,0,3,1,0,24,28,19,43,48]++List.replicate 48 0),([74,3,0,199,130,97,169]++List.replicate 57 0),([69]++List.replicate 30 0++[231,223,105,83]++List.replicate 29 0),([69]++List.replicate 30 0++[231,223,105,83]++List.replicate 29 0)]++List.replicate 11 Zs++[([76,0,0,0,0,0,2,0,0,0,0,0,25,0,0,7,97,220,101]++List.replicate 45 0),([76,0,0,0,0,0,3,0,0,0,0,0,30,0,16,165,115,95,106]++List.replicate 45 0),([82,0,0,0,0,0,25,4,0,0,0,1,0,2,0,3,117,167,109,229]++List.replicate 44 0),([83,0,0,0,0,0,0,0,3,1,0,24,28,19,43,48]++List.replicate 48 0),([74,3,0,199,130,97,169]++List.replicate 57 0),([69]++List.replicate 30 0++[231,223,105,83]++List.replicate 29 0),([69]++List.replicate 30 0++[231,223,105,83]++List.replicate 29 0),([82,0,0,0,0,0,26,1,0,10,83,154,189,196]++List.replicate 50 0),Zs,([82,0,0,0,0,0,27,2,0,4,0,5,231,115,28,134]++List.replicate 48 0),Zs,Zs,([82,0,0,0,0,0,28,2,0,6,0,7,223,196,140,108]++List.replicate 48 0),Zs,Zs,([82,0,0,0,0,0,29,2,0,8,0,9,71,94,147,107]++List.replicate 48 0)]++List.replicate 8 Zs),
  .mp .i64 .str [],
  .arr (.st (.pair (.int .i64) .str)) [],
  .arr (.int .i64) []]
def zT2:AV:=(.tup [(.ptr 5 0),(.int .i64 0)])
def zTD:List AE.Obj :=
  [.cells [(.own 1),(.map 2),(.own 6),(.int .i64 73),(.own 4),(.int .i64 0),(.bool false)],
  .arr .str ([([83,0,0,0,0,0,0,0,3,1,0,24,28,19,43,48]++List.replicate 48 0),([74,3,0,199,130,97,169]++List.replicate 57 0),([69]++List.replicate 30 0++[231,223,105,83]++List.replicate 29 0),([69]++List.replicate 30 0++[231,223,105,83]++List.replicate 29 0)]++List.replicate 11 Zs++[([76,0,0,0,0,0,4,0,0,0,0,0,54,0,0,80,25,215,37]++List.replicate 45 0),([76,0,0,0,0,0,3,0,0,0,0,0,30,0,16,165,115,95,106]++List.replicate 45 0),([82,0,0,0,0,0,25,4,0,0,0,1,0,2,0,3,117,167,109,229]++List.replicate 44 0),([83,0,0,0,0,0,0,0,3,1,0,24,28,19,43,48]++List.replicate 48 0),([74,3,0,199,130,97,169]++List.replicate 57 0),([69]++List.replicate 30 0++[231,223,105,83]++List.replicate 29 0),([69]++List.replicate 30 0++[231,223,105,83]++List.replicate 29 0),([82,0,0,0,0,0,26,1,0,10,83,154,189,196]++List.replicate 50 0),Zs,([82,0,0,0,0,0,27,2,0,4,0,5,231,115,28,134]++List.replicate 48 0),Zs,Zs,([82,0,0,0,0,0,28,2,0,6,0,7,223,196,140,108]++List.replicate 48 0),Zs,Zs,([82,0,0,0,0,0,29,2,0,8,0,9,71,94,147,107]++List.replicate 48 0)]++List.replicate 8 Zs),
  .mp .i64 .str [],
  .arr (.st (.pair (.int .i64) .str)) [],
  .arr (.int .i64) [],
  .cells [(.ptr 7 0),(.int .i64 0),(.int .i64 0),(.int .i64 0),(.int .i64 0),(.int .i64 3),(.int .i64 1),(.int .i64 24),(.ptr 8 0),(.ptr 9 0),(.ptr 10 0)],
  .arr (.st (.pair (.int .i64) .str)) [],
  .cells [(.ptr 0 0),(.ptr 11 0),(.ptr 12 0),(.int .i64 15),(.int .i64 24),(.int .i64 4),(.int .i64 0),(.int .i64 54),(.int .i64 0),(.bool false),(.bool false),(.ptr 13 0)],
  .cells [(.ptr 7 0),(.int .i64 3),(.int .i64 1),(.int .i64 24)],
  .cells [(.ptr 7 0),(.int .i64 3),(.int .i64 1),(.int .i64 24)],
  .cells [(.int .i64 3),(.own 14)],
  .cells [(.ptr 0 0),(.int .i64 15),(.int .i64 2)],
  .cells [(.ptr 0 0),(.int .i64 17),(.int .i64 22)],
  .cells [(.map 15),(.map 16)],
  .arr (.int .u8) [0],
  .mp .i64 .str [],
  .mp .i64 .str []]
noncomputable def zhV:=yy zTF zTP zT2 zTD
def zUL:List AV:=[(.ptr 0 0),(.sub 1 0 1 1)]
def zU0:List AE.Obj :=
  [.cells [(.ptr 2 0),(.int .i64 0),(.int .i64 0),(.int .i64 0),(.int .i64 0),(.int .i64 3),(.int .i64 1),(.int .i64 24),(.ptr 3 0),(.ptr 4 0),(.ptr 5 0)],
  .cells [(.fn (.func 132) [] [(.ptr 6 0),(.ptr 7 0)])],
  .cells [(.ptr 8 0),(.ptr 9 0),(.ptr 10 0),(.int .i64 15),(.int .i64 24),(.int .i64 4),(.int .i64 0),(.int .i64 54),(.int .i64 0),(.bool false),(.bool false),(.ptr 11 0)],
  .cells [(.ptr 2 0),(.int .i64 3),(.int .i64 1),(.int .i64 24)],
  .cells [(.ptr 2 0),(.int .i64 3),(.int .i64 1),(.int .i64 24)],
  .cells [(.int .i64 3),(.own 12)],
  .cells [(.ptr 0 0)],
  .cells [(.int .i64 0),(.int .i64 0),(.int .i64 1),(.int .i64 0),(.int .i64 3),(.int .i64 1),(.int .i64 24)],
  .cells [(.own 13),(.map 14),(.own 15),(.int .i64 74),(.own 16),(.int .i64 0),(.bool false)],
  .cells [(.ptr 8 0),(.int .i64 15),(.int .i64 2)],
  .cells [(.ptr 8 0),(.int .i64 17),(.int .i64 22)],
  .cells [(.map 17),(.map 18)],
  .arr (.int .u8) [0],
  .arr .str ([([83,0,0,0,0,0,0,0,3,1,0,24,28,19,43,48]++List.replicate 48 0),([74,3,0,199,130,97,169]++List.replicate 57 0),([69]++List.replicate 30 0++[231,223,105,83]++List.replicate 29 0),([69]++List.replicate 30 0++[231,223,105,83]++List.replicate 29 0)]++List.replicate 11 Zs++[([76,0,0,0,0,0,4,0,0,0,0,0,54,0,0,80,25,215,37]++List.replicate 45 0),([76,0,0,0,0,0,3,0,0,0,0,0,30,0,16,165,115,95,106]++List.replicate 45 0),([82,0,0,0,0,0,25,4,0,0,0,1,0,2,0,3,117,167,109,229]++List.replicate 44 0),([83,0,0,0,0,0,0,0,3,1,0,24,28,19,43,48]++List.replicate 48 0),([74,3,0,199,130,97,169]++List.replicate 57 0),([69]++List.replicate 30 0++[231,223,105,83]++List.replicate 29 0),([69]++List.replicate 30 0++[231,223,105,83]++List.replicate 29 0),([82,0,0,0,0,0,26,1,0,10,83,154,189,196]++List.replicate 50 0),Zs,([82,0,0,0,0,0,27,2,0,4,0,5,231,115,28,134]++List.replicate 48 0),Zs,Zs,([82,0,0,0,0,0,28,2,0,6,0,7,223,196,140,108]++List.replicate 48 0),Zs,Zs,([82,0,0,0,0,0,29,2,0,8,0,9,71,94,147,107]++List.replicate 48 0)]++List.replicate 8 Zs),
  .mp .i64 .str [],
  .arr (.st (.pair (.int .i64) .str)) [],
  .arr (.int .i64) [],
  .mp .i64 .str [],
  .mp .i64 .str []]
def zUA:AV:=(.int .i64 0)
def zUr:List AE.Obj :=
  [.cells [(.ptr 2 0),(.int .i64 0),(.int .i64 0),(.int .i64 0),(.int .i64 0),(.int .i64 3),(.int .i64 1),(.int .i64 24),(.ptr 3 0),(.ptr 4 0),(.ptr 5 0)],
  .cells [(.fn (.func 132) [] [(.ptr 6 0),(.ptr 7 0)])],
  .cells [(.ptr 8 0),(.ptr 9 0),(.ptr 10 0),(.int .i64 15),(.int .i64 24),(.int .i64 4),(.int .i64 2),(.int .i64 55),(.int .i64 2),(.bool false),(.bool true),(.ptr 11 0)],
  .cells [(.ptr 2 0),(.int .i64 3),(.int .i64 1),(.int .i64 24)],
  .cells [(.ptr 2 0),(.int .i64 3),(.int .i64 1),(.int .i64 24)],
  .cells [(.int .i64 3),(.own 12)],
  .cells [(.ptr 0 0)],
  .cells [(.int .i64 0),(.int .i64 0),(.int .i64 1),(.int .i64 0),(.int .i64 3),(.int .i64 1),(.int .i64 24)],
  .cells [(.own 13),(.map 14),(.own 15),(.int .i64 76),(.own 16),(.int .i64 0),(.bool false)],
  .cells [(.ptr 8 0),(.int .i64 15),(.int .i64 2)],
  .cells [(.ptr 8 0),(.int .i64 17),(.int .i64 22)],
  .cells [(.map 17),(.map 19)],
  .arr (.int .u8) [0],
  .arr .str ([([83,0,0,0,0,0,0,0,3,1,0,24,28,19,43,48]++List.replicate 48 0),([74,3,0,199,130,97,169]++List.replicate 57 0),([69]++List.replicate 30 0++[231,223,105,83]++List.replicate 29 0),([69]++List.replicate 30 0++[231,223,105,83]++List.replicate 29 0)]++List.replicate 11 Zs++[([76,0,0,0,0,0,4,0,0,0,0,0,54,0,0,80,25,215,37]++List.replicate 45 0),([76,0,0,0,0,0,3,0,0,0,0,0,30,0,16,165,115,95,106]++List.replicate 45 0),([82,0,0,0,0,0,25,4,0,0,0,1,0,2,0,3,117,167,109,229]++List.replicate 44 0),([83,0,0,0,0,0,0,0,3,1,0,24,28,19,43,48]++List.replicate 48 0),([74,3,0,199,130,97,169]++List.replicate 57 0),([69]++List.replicate 30 0++[231,223,105,83]++List.replicate 29 0),([69]++List.replicate 30 0++[231,223,105,83]++List.replicate 29 0),([82,0,0,0,0,0,26,1,0,10,83,154,189,196]++List.replicate 50 0),Zs,([82,0,0,0,0,0,27,2,0,4,0,5,231,115,28,134]++List.replicate 48 0),Zs,Zs,([82,0,0,0,0,0,28,2,0,6,0,7,223,196,140,108]++List.replicate 48 0),Zs,Zs,([82,0,0,0,0,0,29,2,0,8,0,9,71,94,147,107]++List.replicate 48 0)]++List.replicate 8 Zs),
  .mp .i64 .str [(18,([83,0,0,0,0,0,1,0,3,1,0,24,185,192,119,251]++List.replicate 48 0)),(17,([82,0,0,0,0,0,54,1,0,0,62,64,235,186]++List.replicate 50 0))],
  .arr (.st (.pair (.int .i64) .str)) [(18,([83,0,0,0,0,0,1,0,3,1,0,24,185,192,119,251]++List.replicate 48 0)),(17,([82,0,0,0,0,0,54,1,0,0,62,64,235,186]++List.replicate 50 0))],
  .arr (.int .i64) [],
  .mp .i64 .str [(0,([83,0,0,0,0,0,1,0,3,1,0,24,185,192,119,251]++List.replicate 48 0))],
  .mp .i64 .str [(0,([83,0,0,0,0,0,1,0,3,1,0,24,185,192,119,251]++List.replicate 48 0))],
  .mp .i64 .str []]
noncomputable def zm6:=yy zUL zU0 zUA zUr
def zVe:List AV:=[(.ptr 0 0)]
def zTT:List AE.Obj :=
  [.cells [(.own 1),(.map 2),(.own 3),(.int .i64 64),(.own 4),(.int .i64 0),(.bool false)],
  .arr .str ([([83,0,0,0,0,0,0,0,3,1,0,24,28,19,43,48]++List.replicate 48 0),([74,3,0,199,130,97,169]++List.replicate 57 0),([69]++List.replicate 30 0++[231,223,105,83]++List.replicate 29 0),([69]++List.replicate 30 0++[231,223,105,83]++List.replicate 29 0)]++List.replicate 11 Zs++[([76,0,0,0,0,0,2,0,0,0,0,0,25,0,0,7,97,220,101]++List.replicate 45 0),([76,0,0,0,0,0,3,0,0,0,0,0,30,0,16,165,115,95,106]++List.replicate 45 0),([82,0,0,0,0,0,25,4,0,0,0,1,0,2,0,3,117,167,109,229]++List.replicate 44 0),([83,0,0,0,0,0,0,0,3,1,0,24,28,19,43,48]++List.replicate 48 0),([74,3,0,199,130,97,169]++List.replicate 57 0),([69]++List.replicate 30 0++[231,223,105,83]++List.replicate 29 0),([69]++List.replicate 30 0++[231,223,105,83]++List.replicate 29 0),([82,0,0,0,0,0,26,1,0,10,83,154,189,196]++List.replicate 50 0),Zs,([82,0,0,0,0,0,27,2,0,4,0,5,231,115,28,134]++List.replicate 48 0),Zs,Zs,([82,0,0,0,0,0,28,2,0,6,0,7,223,196,140,108]++List.replicate 48 0),Zs,Zs,([82,0,0,0,0,0,29,2,0,8,0,9,71,94,147,107]++List.replicate 48 0)]++List.replicate 8 Zs),
  .mp .i64 .str [],
  .arr (.st (.pair (.int .i64) .str)) [],
  .arr (.int .i64) []]
def zUU:AV:=(.tup [(.ptr 5 0),(.int .i64 0)])
def zUs:List AE.Obj :=
  [.cells [(.own 1),(.map 2),(.own 6),(.int .i64 77),(.own 4),(.int .i64 0),(.bool false)],
  .arr .str ([([83,0,0,0,0,0,0,0,3,1,0,24,28,19,43,48]++List.replicate 48 0),([74,3,0,199,130,97,169]++List.replicate 57 0),([69]++List.replicate 30 0++[231,223,105,83]++List.replicate 29 0),([69]++List.replicate 30 0++[231,223,105,83]++List.replicate 29 0)]++List.replicate 11 Zs++[([76,0,0,0,0,0,4,0,0,0,0,0,54,0,0,80,25,215,37]++List.replicate 45 0),([76,0,0,0,0,0,3,0,0,0,0,0,30,0,16,165,115,95,106]++List.replicate 45 0),([82,0,0,0,0,0,54,1,0,0,62,64,235,186]++List.replicate 50 0),([83,0,0,0,0,0,1,0,3,1,0,24,185,192,119,251]++List.replicate 48 0),([74,3,0,199,130,97,169]++List.replicate 57 0),([69]++List.replicate 30 0++[231,223,105,83]++List.replicate 29 0),([69]++List.replicate 30 0++[231,223,105,83]++List.replicate 29 0),([82,0,0,0,0,0,26,1,0,10,83,154,189,196]++List.replicate 50 0),Zs,([82,0,0,0,0,0,27,2,0,4,0,5,231,115,28,134]++List.replicate 48 0),Zs,Zs,([82,0,0,0,0,0,28,2,0,6,0,7,223,196,140,108]++List.replicate 48 0),Zs,Zs,([82,0,0,0,0,0,29,2,0,8,0,9,71,94,147,107]++List.replicate 48 0)]++List.replicate 8 Zs),
  .mp .i64 .str [],
  .arr (.st (.pair (.int .i64) .str)) [],
  .arr (.int .i64) [],
  .cells [(.ptr 7 0),(.int .i64 0),(.int .i64 0),(.int .i64 1),(.int .i64 0),(.int .i64 3),(.int .i64 1),(.int .i64 24),(.ptr 8 0),(.ptr 9 0),(.ptr 10 0)],
  .arr (.st (.pair (.int .i64) .str)) [],
  .cells [(.ptr 0 0),(.ptr 11 0),(.ptr 12 0),(.int .i64 15),(.int .i64 24),(.int .i64 4),(.int .i64 2),(.int .i64 55),(.int .i64 2),(.bool false),(.bool false),(.ptr 13 0)],
  .cells [(.ptr 7 0),(.int .i64 3),(.int .i64 1),(.int .i64 24)],
  .cells [(.ptr 7 0),(.int .i64 3),(.int .i64 1),(.int .i64 24)],
  .cells [(.int .i64 3),(.own 14)],
  .cells [(.ptr 0 0),(.int .i64 15),(.int .i64 2)],
  .cells [(.ptr 0 0),(.int .i64 17),(.int .i64 22)],
  .cells [(.map 15),(.map 16)],
  .arr (.int .u8) [0],
  .mp .i64 .str [(0,([83,0,0,0,0,0,1,0,3,1,0,24,185,192,119,251]++List.replicate 48 0))],
  .mp .i64 .str []]
noncomputable def ztF:=yy zVe zTT zUU zUs
def zUW:List AV:=[(.ptr 0 0)]
def zU4:List AE.Obj :=
  [.cells [(.ptr 1 0),(.int .i64 0),(.int .i64 0),(.int .i64 1),(.int .i64 0),(.int .i64 3),(.int .i64 1),(.int .i64 24),(.ptr 2 0),(.ptr 3 0),(.ptr 4 0)],
  .cells [(.ptr 5 0),(.ptr 6 0),(.ptr 7 0),(.int .i64 15),(.int .i64 24),(.int .i64 4),(.int .i64 2),(.int .i64 55),(.int .i64 2),(.bool false),(.bool false),(.ptr 8 0)],
  .cells [(.ptr 1 0),(.int .i64 3),(.int .i64 1),(.int .i64 24)],
  .cells [(.ptr 1 0),(.int .i64 3),(.int .i64 1),(.int .i64 24)],
  .cells [(.int .i64 3),(.own 9)],
  .cells [(.own 10),(.map 11),(.own 12),(.int .i64 77),(.own 13),(.int .i64 0),(.bool false)],
  .cells [(.ptr 5 0),(.int .i64 15),(.int .i64 2)],
  .cells [(.ptr 5 0),(.int .i64 17),(.int .i64 22)],
  .cells [(.map 14),(.map 15)],
  .arr (.int .u8) [0],
  .arr .str ([([83,0,0,0,0,0,0,0,3,1,0,24,28,19,43,48]++List.replicate 48 0),([74,3,0,199,130,97,169]++List.replicate 57 0),([69]++List.replicate 30 0++[231,223,105,83]++List.replicate 29 0),([69]++List.replicate 30 0++[231,223,105,83]++List.replicate 29 0)]++List.replicate 11 Zs++[([76,0,0,0,0,0,4,0,0,0,0,0,54,0,0,80,25,215,37]++List.replicate 45 0),([76,0,0,0,0,0,3,0,0,0,0,0,30,0,16,165,115,95,106]++List.replicate 45 0),([82,0,0,0,0,0,54,1,0,0,62,64,235,186]++List.replicate 50 0),([83,0,0,0,0,0,1,0,3,1,0,24,185,192,119,251]++List.replicate 48 0),([74,3,0,199,130,97,169]++List.replicate 57 0),([69]++List.replicate 30 0++[231,223,105,83]++List.replicate 29 0),([69]++List.replicate 30 0++[231,223,105,83]++List.replicate 29 0),([82,0,0,0,0,0,26,1,0,10,83,154,189,196]++List.replicate 50 0),Zs,([82,0,0,0,0,0,27,2,0,4,0,5,231,115,28,134]++List.replicate 48 0),Zs,Zs,([82,0,0,0,0,0,28,2,0,6,0,7,223,196,140,108]++List.replicate 48 0),Zs,Zs,([82,0,0,0,0,0,29,2,0,8,0,9,71,94,147,107]++List.replicate 48 0)]++List.replicate 8 Zs),
  .mp .i64 .str [],
  .arr (.st (.pair (.int .i64) .str)) [],
  .arr (.int .i64) [],
  .mp .i64 .str [(0,([83,0,0,0,0,0,1,0,3,1,0,24,185,192,119,251]++List.replicate 48 0))],
  .mp .i64 .str []]
def zUk:AV:=(.tup [(.agg [(.int .i64 0),(.int .i64 0),(.int .i64 1),(.int .i64 0),(.int .i64 3),(.int .i64 1),(.int .i64 24),(.own 16),(.own 17)]),(.int .i64 0)])
def zUt:List AE.Obj :=
  [.cells [(.ptr 1 0),(.int .i64 0),(.int .i64 0),(.int .i64 1),(.int .i64 0),(.int .i64 3),(.int .i64 1),(.int .i64 24),(.ptr 2 0),(.ptr 3 0),(.ptr 4 0)],
  .cells [(.ptr 5 0),(.ptr 6 0),(.ptr 7 0),(.int .i64 15),(.int .i64 24),(.int .i64 4),(.int .i64 2),(.int .i64 55),(.int .i64 2),(.bool false),(.bool false),(.ptr 8 0)],
  .cells [(.ptr 1 0),(.int .i64 3),(.int .i64 1),(.int .i64 24)],
  .cells [(.ptr 1 0),(.int .i64 3),(.int .i64 1),(.int .i64 24)],
  .cells [(.int .i64 3),(.own 9)],
  .cells [(.own 10),(.map 11),(.own 12),(.int .i64 86),(.own 13),(.int .i64 0),(.bool false)],
  .cells [(.ptr 5 0),(.int .i64 15),(.int .i64 2)],
  .cells [(.ptr 5 0),(.int .i64 17),(.int .i64 22)],
  .cells [(.map 14),(.map 15)],
  .arr (.int .u8) [0],
  .arr .str ([([83,0,0,0,0,0,0,0,3,1,0,24,28,19,43,48]++List.replicate 48 0),([74,3,0,199,130,97,169]++List.replicate 57 0),([69]++List.replicate 30 0++[231,223,105,83]++List.replicate 29 0),([69]++List.replicate 30 0++[231,223,105,83]++List.replicate 29 0)]++List.replicate 11 Zs++[([76,0,0,0,0,0,4,0,0,0,0,0,54,0,0,80,25,215,37]++List.replicate 45 0),([76,0,0,0,0,0,3,0,0,0,0,0,30,0,16,165,115,95,106]++List.replicate 45 0),([82,0,0,0,0,0,54,1,0,0,62,64,235,186]++List.replicate 50 0),([83,0,0,0,0,0,1,0,3,1,0,24,185,192,119,251]++List.replicate 48 0),([74,3,0,199,130,97,169]++List.replicate 57 0),([69]++List.replicate 30 0++[231,223,105,83]++List.replicate 29 0),([69]++List.replicate 30 0++[231,223,105,83]++List.replicate 29 0),([82,0,0,0,0,0,26,1,0,10,83,154,189,196]++List.replicate 50 0),Zs,([82,0,0,0,0,0,27,2,0,4,0,5,231,115,28,134]++List.replicate 48 0),Zs,Zs,([82,0,0,0,0,0,28,2,0,6,0,7,223,196,140,108]++List.replicate 48 0),Zs,Zs,([82,0,0,0,0,0,29,2,0,8,0,9,71,94,147,107]++List.replicate 48 0)]++List.replicate 8 Zs),
  .mp .i64 .str [],
  .arr (.st (.pair (.int .i64) .str)) [],
  .arr (.int .i64) [],
  .mp .i64 .str [(0,([83,0,0,0,0,0,1,0,3,1,0,24,185,192,119,251]++List.replicate 48 0))],
  .mp .i64 .str [],
  .arr (.st (.pair (.int .i64) (.pair (.pair (.int .i64) (.int .i64)) (.pair .str (.pair (.pair (.pair (.int .i64) (.int .i64)) .str) (.pair (.pair (.int .i64) (.int .i64)) .str)))))) [(0,((0,0),((List.replicate 128 0),(((0,0),[]),((0,0),[]))))),(0,((0,0),((List.replicate 128 0),(((0,0),[]),((0,0),[]))))),(0,((0,0),((List.replicate 128 0),(((0,0),[]),((0,0),[])))))],
  .arr .bool [false,false,false]]
noncomputable def zCr:=yy zUW zU4 zUk zUt
def zUy:List AV:=[(.agg [(.int .i64 0),(.int .i64 0),(.int .i64 1),(.int .i64 0),(.int .i64 3),(.int .i64 1),(.int .i64 24),(.ro (.st (.pair (.int .i64) (.pair (.pair (.int .i64) (.int .i64)) (.pair .str (.pair (.pair (.pair (.int .i64) (.int .i64)) .str) (.pair (.pair (.int .i64) (.int .i64)) .str)))))) [(0,((0,0),((List.replicate 128 0),(((0,0),[]),((0,0),[]))))),(0,((0,0),((List.replicate 128 0),(((0,0),[]),((0,0),[]))))),(0,((0,0),((List.replicate 128 0),(((0,0),[]),((0,0),[])))))]),(.ro .bool [false,false,false])])]
def zTK:List AE.Obj :=
  []
def zUQ:AV:=(.tup [(.own 0),(.int .i64 0)])
def zTW:List AE.Obj :=
  [.arr .str [([20,0,64,83,0,0,0,0,0,1,0,3,1,0,24,185,192,119,251]++List.replicate 48 0++[161,18,126,15]),([21,0,145]++List.replicate 145 0++[163,155,109,121]),([21,0,145,1]++List.replicate 144 0++[190,96,35,33]),([21,0,145,2]++List.replicate 144 0++[153,109,240,201]),[22,0,6,0,4,132,108,85,101,65,147,97,118]]]
noncomputable def zKw:=yy zUy zTK zUQ zTW
def zTG:List AV:=[(.ro .str [([20,0,64,83,0,0,0,0,0,1,0,3,1,0,24,185,192,119,251]++List.replicate 48 0++[161,18,126,15]),([21,0,145]++List.replicate 145 0++[163,155,109,121]),([21,0,145,1]++List.replicate 144 0++[190,96,35,33]),([21,0,145,2]++List.replicate 144 0++[153,109,240,201]),[22,0,6,0,4,132,108,85,101,65,147,97,118]])]
def zUb:List AE.Obj :=
  []
def zTM:AV:=(.tup [(.agg [(.int .i64 0),(.int .i64 0),(.int .i64 1),(.int .i64 0),(.int .i64 3),(.int .i64 1),(.int .i64 24),(.own 0),(.own 1)]),(.int .i64 0)])
def zVn:List AE.Obj :=
  [.arr (.st (.pair (.int .i64) (.pair (.pair (.int .i64) (.int .i64)) (.pair .str (.pair (.pair (.pair (.int .i64) (.int .i64)) .str) (.pair (.pair (.int .i64) (.int .i64)) .str)))))) [(0,((0,0),((List.replicate 128 0),(((0,0),[]),((0,0),[]))))),(0,((0,0),((List.replicate 128 0),(((0,0),[]),((0,0),[]))))),(0,((0,0),((List.replicate 128 0),(((0,0),[]),((0,0),[])))))],
  .arr .bool [false,false,false]]
noncomputable def zP2:=yy zTG zUb zTM zVn
def zUB:List AV:=[(.agg [(.int .i64 0),(.int .i64 0),(.int .i64 1),(.int .i64 0),(.int .i64 3),(.int .i64 1),(.int .i64 24),(.ro (.st (.pair (.int .i64) (.pair (.pair (.int .i64) (.int .i64)) (.pair .str (.pair (.pair (.pair (.int .i64) (.int .i64)) .str) (.pair (.pair (.int .i64) (.int .i64)) .str)))))) [(0,((0,0),((List.replicate 128 0),(((0,0),[]),((0,0),[]))))),(0,((0,0),((List.replicate 128 0),(((0,0),[]),((0,0),[]))))),(0,((0,0),((List.replicate 128 0),(((0,0),[]),((0,0),[])))))]),(.ro .bool [false,false,false])]),(.agg [(.int .i64 0),(.int .i64 0),(.int .i64 1),(.int .i64 0),(.int .i64 3),(.int .i64 1),(.int .i64 24),(.ro (.st (.pair (.int .i64) (.pair (.pair (.int .i64) (.int .i64)) (.pair .str (.pair (.pair (.pair (.int .i64) (.int .i64)) .str) (.pair (.pair (.int .i64) (.int .i64)) .str)))))) [(0,((0,0),((List.replicate 128 0),(((0,0),[]),((0,0),[]))))),(0,((0,0),((List.replicate 128 0),(((0,0),[]),((0,0),[]))))),(0,((0,0),((List.replicate 128 0),(((0,0),[]),((0,0),[])))))]),(.ro .bool [false,false,false])])]
def zUX:List AE.Obj :=
  []
def zUY:AV:=(.bool true)
def zVc:List AE.Obj :=
  []
noncomputable def zUm:=yy zUB zUX zUY zVc
noncomputable def Tb0:Env:=ym
noncomputable def To0:Lo:=loD Tryz.prog Tryz.tab Tb0 y4 y7 40
noncomputable def Tb1:Env:=(112,.func T0f)::ym
noncomputable def To1:Lo:=loD Tryz.prog Tryz.tab Tb1 y4 y7 40
noncomputable def Tb2:Env:=(112,.func T0f)::(114,.func T1f)::ym
noncomputable def To2:Lo:=loD Tryz.prog Tryz.tab Tb2 y4 y7 40
noncomputable def Tb3:Env:=(112,.func T0f)::(114,.func T1f)::(116,.func T2f)::ym
noncomputable def To3:Lo:=loD Tryz.prog Tryz.tab Tb3 y4 y7 40
noncomputable def Tb4:Env:=(112,.func T0f)::(114,.func T1f)::(116,.func (orF T2f T3f))::ym
noncomputable def To4:Lo:=loD Tryz.prog Tryz.tab Tb4 y4 y7 40
noncomputable def Tb5:Env:=(112,.func T0f)::(114,.func T1f)::(116,.func (orF T2f (orF T3f T4f)))::ym
noncomputable def To5:Lo:=loD Tryz.prog Tryz.tab Tb5 y4 y7 40
noncomputable def Tb6:Env:=(112,.func T0f)::(114,.func T1f)::(116,.func (orF T2f (orF T3f (orF T4f T5f))))::ym
noncomputable def To6:Lo:=loD Tryz.prog Tryz.tab Tb6 y4 y7 40
noncomputable def Tb7:Env:=(112,.func T0f)::(114,.func T1f)::(116,.func (orF T2f (orF T3f (orF T4f (orF T5f T6f)))))::ym
noncomputable def To7:Lo:=loD Tryz.prog Tryz.tab Tb7 y4 y7 40
noncomputable def Tb8:Env:=(112,.func T0f)::(114,.func T1f)::(116,.func (orF T2f (orF T3f (orF T4f (orF T5f T6f)))))::(125,.func T7f)::ym
noncomputable def To8:Lo:=loD Tryz.prog Tryz.tab Tb8 y4 y7 40
noncomputable def Tb9:Env:=(77,.func T8f)::(112,.func T0f)::(114,.func T1f)::(116,.func (orF T2f (orF T3f (orF T4f (orF T5f T6f)))))::(125,.func T7f)::ym
noncomputable def To9:Lo:=loD Tryz.prog Tryz.tab Tb9 y4 y7 40
noncomputable def zU9:Env:=(77,.func T8f)::(112,.func T0f)::(114,.func (orF T1f T9f))::(116,.func (orF T2f (orF T3f (orF T4f (orF T5f T6f)))))::(125,.func T7f)::ym
noncomputable def zTY:Lo:=loD Tryz.prog Tryz.tab zU9 y4 y7 40
noncomputable def zVa:Env:=(77,.func T8f)::(78,.func zhV)::(112,.func T0f)::(114,.func (orF T1f T9f))::(116,.func (orF T2f (orF T3f (orF T4f (orF T5f T6f)))))::(125,.func T7f)::ym
noncomputable def zTR:Lo:=loD Tryz.prog Tryz.tab zVa y4 y7 40
noncomputable def zT4:Env:=(77,.func T8f)::(78,.func zhV)::(112,.func T0f)::(114,.func (orF T1f T9f))::(116,.func (orF T2f (orF T3f (orF T4f (orF T5f (orF T6f zm6))))))::(125,.func T7f)::ym
noncomputable def zUh:Lo:=loD Tryz.prog Tryz.tab zT4 y4 y7 40
noncomputable def zUv:Env:=(43,.func ztF)::(77,.func T8f)::(78,.func zhV)::(112,.func T0f)::(114,.func (orF T1f T9f))::(116,.func (orF T2f (orF T3f (orF T4f (orF T5f (orF T6f zm6))))))::(125,.func T7f)::ym
noncomputable def zVo:Lo:=loD Tryz.prog Tryz.tab zUv y4 y7 40
noncomputable def zT8:Env:=(18,.func zCr)::(43,.func ztF)::(77,.func T8f)::(78,.func zhV)::(112,.func T0f)::(114,.func (orF T1f T9f))::(116,.func (orF T2f (orF T3f (orF T4f (orF T5f (orF T6f zm6))))))::(125,.func T7f)::ym
noncomputable def zUH:Lo:=loD Tryz.prog Tryz.tab zT8 y4 y7 40
noncomputable def zTU:Env:=(9,.func zKw)::(18,.func zCr)::(43,.func ztF)::(77,.func T8f)::(78,.func zhV)::(112,.func T0f)::(114,.func (orF T1f T9f))::(116,.func (orF T2f (orF T3f (orF T4f (orF T5f (orF T6f zm6))))))::(125,.func T7f)::ym
noncomputable def zUE:Lo:=loD Tryz.prog Tryz.tab zTU y4 y7 40
noncomputable def zUT:Env:=(7,.func zP2)::(9,.func zKw)::(18,.func zCr)::(43,.func ztF)::(77,.func T8f)::(78,.func zhV)::(112,.func T0f)::(114,.func (orF T1f T9f))::(116,.func (orF T2f (orF T3f (orF T4f (orF T5f (orF T6f zm6))))))::(125,.func T7f)::ym
noncomputable def zTz:Lo:=loD Tryz.prog Tryz.tab zUT y4 y7 40
noncomputable def zT9:Env:=(7,.func zP2)::(9,.func zKw)::(10,.func zUm)::(18,.func zCr)::(43,.func ztF)::(77,.func T8f)::(78,.func zhV)::(112,.func T0f)::(114,.func (orF T1f T9f))::(116,.func (orF T2f (orF T3f (orF T4f (orF T5f (orF T6f zm6))))))::(125,.func T7f)::ym
noncomputable def zTO:Lo:=loD Tryz.prog Tryz.tab zT9 y4 y7 40
end Go.Proofs.R9
