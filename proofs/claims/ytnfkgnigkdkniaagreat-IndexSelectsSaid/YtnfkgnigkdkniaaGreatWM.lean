import Derived.Test.YtnfkgnigkdkniaaGreatVmFor
import Derived.Test.YtnfkgnigkdkniaaGreatProg
set_option linter.unusedVariables false
set_option linter.unusedSimpArgs false
set_option maxRecDepth 100000
noncomputable section
namespace Go.Vm
open Go.Proofs
variable {R:Type}
abbrev Rows:=List (List V)
def A_j:Nat->List T->List T
  | 0,l=>l
  | n+1,l=>.undef::A_j n l
structure F' where
  X0:Int
  Y0:Int
  X1:Int
  Y1:Int
abbrev F'.sh:List CK:=[.int .i64,.int .i64,.int .i64,.int .i64]
abbrev F'.ts:List T:=[.int .i64,.int .i64,.int .i64,.int .i64]
def F'.row (s:F'):List V:=[.int .i64 s.X0,.int .i64 s.Y0,.int .i64 s.X1,.int .i64 s.Y1]
def F'.v (s:F'):V:=.agg s.row
def F'.of (w:List V):F':=⟨V.toInt (List.getD w 0 V.undef),V.toInt (List.getD w 1 V.undef),V.toInt (List.getD w 2 V.undef),V.toInt (List.getD w 3 V.undef)⟩
instance:Inhabited F':=⟨F'.of []⟩
structure H' where
  Depth:Int
  Signed:Bool
  DX:Int
  DY:Int
abbrev H'.sh:List CK:=[.int .i64,.bool,.int .i64,.int .i64]
abbrev H'.ts:List T:=[.int .i64,.bool,.int .i64,.int .i64]
def H'.row (s:H'):List V:=[.int .i64 s.Depth,.bool s.Signed,.int .i64 s.DX,.int .i64 s.DY]
def H'.v (s:H'):V:=.agg s.row
def H'.of (w:List V):H':=⟨V.toInt (List.getD w 0 V.undef),V.toBool (List.getD w 1 V.undef),V.toInt (List.getD w 2 V.undef),V.toInt (List.getD w 3 V.undef)⟩
instance:Inhabited H':=⟨H'.of []⟩
structure D' where
  Area:F'
  TileW:Int
  TileH:Int
  Components:Rows
abbrev D'.sh:List CK:=[.int .i64,.int .i64,.int .i64,.int .i64,.int .i64,.int .i64,.sl H'.sh]
abbrev D'.ts:List T:=[.int .i64,.int .i64,.int .i64,.int .i64,.int .i64,.int .i64,.data H'.sh]
def D'.row (s:D'):List V:=[.int .i64 s.Area.X0,.int .i64 s.Area.Y0,.int .i64 s.Area.X1,.int .i64 s.Area.Y1,.int .i64 s.TileW,.int .i64 s.TileH,.data H'.sh s.Components]
def D'.v (s:D'):V:=.agg s.row
def D'.of (w:List V):D':=⟨⟨V.toInt (List.getD w 0 V.undef),V.toInt (List.getD w 1 V.undef),V.toInt (List.getD w 2 V.undef),V.toInt (List.getD w 3 V.undef)⟩,V.toInt (List.getD w 4 V.undef),V.toInt (List.getD w 5 V.undef),V.toRows (List.getD w 6 V.undef)⟩
instance:Inhabited D':=⟨D'.of []⟩
structure K' where
  Bypass:Bool
  Restart:Bool
  Reset:Bool
  Causal:Bool
  Symbols:Bool
abbrev K'.sh:List CK:=[.bool,.bool,.bool,.bool,.bool]
abbrev K'.ts:List T:=[.bool,.bool,.bool,.bool,.bool]
def K'.row (s:K'):List V:=[.bool s.Bypass,.bool s.Restart,.bool s.Reset,.bool s.Causal,.bool s.Symbols]
def K'.v (s:K'):V:=.agg s.row
def K'.of (w:List V):K':=⟨V.toBool (List.getD w 0 V.undef),V.toBool (List.getD w 1 V.undef),V.toBool (List.getD w 2 V.undef),V.toBool (List.getD w 3 V.undef),V.toBool (List.getD w 4 V.undef)⟩
instance:Inhabited K':=⟨K'.of []⟩
structure U' where
  From:Int
  To:Int
abbrev U'.sh:List CK:=[.int .i64,.int .i64]
abbrev U'.ts:List T:=[.int .i64,.int .i64]
def U'.row (s:U'):List V:=[.int .i64 s.From,.int .i64 s.To]
def U'.v (s:U'):V:=.agg s.row
def U'.of (w:List V):U':=⟨V.toInt (List.getD w 0 V.undef),V.toInt (List.getD w 1 V.undef)⟩
instance:Inhabited U':=⟨U'.of []⟩
structure C' where
  Kernel:Int
  Levels:Int
  Color:Int
  BlockX:Int
  BlockY:Int
  Precincts:Rows
  Order:Int
  Layers:Int
  Mode:K'
  Divide:Bool
  Sync:Bool
  Fence:Bool
  Steps:Rows
  Dead:Int
  Shift:Int
abbrev C'.sh:List CK:=[.int .i64,.int .i64,.int .i64,.int .i64,.int .i64,.sl U'.sh,.int .i64,.int .i64,.bool,.bool,.bool,.bool,.bool,.bool,.bool,.bool,.sl [.int .i64],.int .i64,.int .i64]
abbrev C'.ts:List T:=[.int .i64,.int .i64,.int .i64,.int .i64,.int .i64,.data U'.sh,.int .i64,.int .i64,.bool,.bool,.bool,.bool,.bool,.bool,.bool,.bool,.data [.int .i64],.int .i64,.int .i64]
def C'.row (s:C'):List V:=[.int .i64 s.Kernel,.int .i64 s.Levels,.int .i64 s.Color,.int .i64 s.BlockX,.int .i64 s.BlockY,.data U'.sh s.Precincts,.int .i64 s.Order,.int .i64 s.Layers,.bool s.Mode.Bypass,.bool s.Mode.Restart,.bool s.Mode.Reset,.bool s.Mode.Causal,.bool s.Mode.Symbols,.bool s.Divide,.bool s.Sync,.bool s.Fence,.data [.int .i64] s.Steps,.int .i64 s.Dead,.int .i64 s.Shift]
def C'.v (s:C'):V:=.agg s.row
def C'.of (w:List V):C':=⟨V.toInt (List.getD w 0 V.undef),V.toInt (List.getD w 1 V.undef),V.toInt (List.getD w 2 V.undef),V.toInt (List.getD w 3 V.undef),V.toInt (List.getD w 4 V.undef),V.toRows (List.getD w 5 V.undef),V.toInt (List.getD w 6 V.undef),V.toInt (List.getD w 7 V.undef),⟨V.toBool (List.getD w 8 V.undef),V.toBool (List.getD w 9 V.undef),V.toBool (List.getD w 10 V.undef),V.toBool (List.getD w 11 V.undef),V.toBool (List.getD w 12 V.undef)⟩,V.toBool (List.getD w 13 V.undef),V.toBool (List.getD w 14 V.undef),V.toBool (List.getD w 15 V.undef),V.toRows (List.getD w 16 V.undef),V.toInt (List.getD w 17 V.undef),V.toInt (List.getD w 18 V.undef)⟩
instance:Inhabited C':=⟨C'.of []⟩
structure O' where
  Layers:Int
  Drop:Int
  Window:F'
abbrev O'.sh:List CK:=[.int .i64,.int .i64,.int .i64,.int .i64,.int .i64,.int .i64]
abbrev O'.ts:List T:=[.int .i64,.int .i64,.int .i64,.int .i64,.int .i64,.int .i64]
def O'.row (s:O'):List V:=[.int .i64 s.Layers,.int .i64 s.Drop,.int .i64 s.Window.X0,.int .i64 s.Window.Y0,.int .i64 s.Window.X1,.int .i64 s.Window.Y1]
def O'.v (s:O'):V:=.agg s.row
def O'.of (w:List V):O':=⟨V.toInt (List.getD w 0 V.undef),V.toInt (List.getD w 1 V.undef),⟨V.toInt (List.getD w 2 V.undef),V.toInt (List.getD w 3 V.undef),V.toInt (List.getD w 4 V.undef),V.toInt (List.getD w 5 V.undef)⟩⟩
instance:Inhabited O':=⟨O'.of []⟩
structure G' where
  Comp:Int
  Res:Int
  Precinct:Int
  Layer:Int
abbrev G'.sh:List CK:=[.int .i64,.int .i64,.int .i64,.int .i64]
abbrev G'.ts:List T:=[.int .i64,.int .i64,.int .i64,.int .i64]
def G'.row (s:G'):List V:=[.int .i64 s.Comp,.int .i64 s.Res,.int .i64 s.Precinct,.int .i64 s.Layer]
def G'.v (s:G'):V:=.agg s.row
def G'.of (w:List V):G':=⟨V.toInt (List.getD w 0 V.undef),V.toInt (List.getD w 1 V.undef),V.toInt (List.getD w 2 V.undef),V.toInt (List.getD w 3 V.undef)⟩
instance:Inhabited G':=⟨G'.of []⟩
structure V' where
  Tile:Int
  ID:G'
  Span:U'
abbrev V'.sh:List CK:=[.int .i64,.int .i64,.int .i64,.int .i64,.int .i64,.int .i64,.int .i64]
abbrev V'.ts:List T:=[.int .i64,.int .i64,.int .i64,.int .i64,.int .i64,.int .i64,.int .i64]
def V'.row (s:V'):List V:=[.int .i64 s.Tile,.int .i64 s.ID.Comp,.int .i64 s.ID.Res,.int .i64 s.ID.Precinct,.int .i64 s.ID.Layer,.int .i64 s.Span.From,.int .i64 s.Span.To]
def V'.v (s:V'):V:=.agg s.row
def V'.of (w:List V):V':=⟨V.toInt (List.getD w 0 V.undef),⟨V.toInt (List.getD w 1 V.undef),V.toInt (List.getD w 2 V.undef),V.toInt (List.getD w 3 V.undef),V.toInt (List.getD w 4 V.undef)⟩,⟨V.toInt (List.getD w 5 V.undef),V.toInt (List.getD w 6 V.undef)⟩⟩
instance:Inhabited V':=⟨V'.of []⟩
structure A_d where
  Entries:Rows
  View:O'
abbrev A_d.sh:List CK:=[.sl V'.sh,.int .i64,.int .i64,.int .i64,.int .i64,.int .i64,.int .i64]
abbrev A_d.ts:List T:=[.data V'.sh,.int .i64,.int .i64,.int .i64,.int .i64,.int .i64,.int .i64]
def A_d.row (s:A_d):List V:=[.data V'.sh s.Entries,.int .i64 s.View.Layers,.int .i64 s.View.Drop,.int .i64 s.View.Window.X0,.int .i64 s.View.Window.Y0,.int .i64 s.View.Window.X1,.int .i64 s.View.Window.Y1]
def A_d.v (s:A_d):V:=.agg s.row
def A_d.of (w:List V):A_d:=⟨V.toRows (List.getD w 0 V.undef),⟨V.toInt (List.getD w 1 V.undef),V.toInt (List.getD w 2 V.undef),⟨V.toInt (List.getD w 3 V.undef),V.toInt (List.getD w 4 V.undef),V.toInt (List.getD w 5 V.undef),V.toInt (List.getD w 6 V.undef)⟩⟩⟩
instance:Inhabited A_d:=⟨A_d.of []⟩
structure A_b where
  ids:Rows
  place:Rows
abbrev A_b.sh:List CK:=[.sl F'.sh,.mp]
abbrev A_b.ts:List T:=[.data F'.sh,.mdat]
def A_b.row (s:A_b):List V:=[.data F'.sh s.ids,.mdat s.place]
def A_b.v (s:A_b):V:=.agg s.row
def A_b.of (w:List V):A_b:=⟨V.toRows (List.getD w 0 V.undef),V.toMap (List.getD w 1 V.undef)⟩
instance:Inhabited A_b:=⟨A_b.of []⟩
structure N' where
  Comp:Int
  Res:Int
  Band:Int
  Precinct:Int
  Index:Int
  Rect:F'
abbrev N'.sh:List CK:=[.int .i64,.int .i64,.int .i64,.int .i64,.int .i64,.int .i64,.int .i64,.int .i64,.int .i64]
abbrev N'.ts:List T:=[.int .i64,.int .i64,.int .i64,.int .i64,.int .i64,.int .i64,.int .i64,.int .i64,.int .i64]
def N'.row (s:N'):List V:=[.int .i64 s.Comp,.int .i64 s.Res,.int .i64 s.Band,.int .i64 s.Precinct,.int .i64 s.Index,.int .i64 s.Rect.X0,.int .i64 s.Rect.Y0,.int .i64 s.Rect.X1,.int .i64 s.Rect.Y1]
def N'.v (s:N'):V:=.agg s.row
def N'.of (w:List V):N':=⟨V.toInt (List.getD w 0 V.undef),V.toInt (List.getD w 1 V.undef),V.toInt (List.getD w 2 V.undef),V.toInt (List.getD w 3 V.undef),V.toInt (List.getD w 4 V.undef),⟨V.toInt (List.getD w 5 V.undef),V.toInt (List.getD w 6 V.undef),V.toInt (List.getD w 7 V.undef),V.toInt (List.getD w 8 V.undef)⟩⟩
instance:Inhabited N':=⟨N'.of []⟩
structure X' where
  X:Int
  Y:Int
abbrev X'.sh:List CK:=[.int .i64,.int .i64]
abbrev X'.ts:List T:=[.int .i64,.int .i64]
def X'.row (s:X'):List V:=[.int .i64 s.X,.int .i64 s.Y]
def X'.v (s:X'):V:=.agg s.row
def X'.of (w:List V):X':=⟨V.toInt (List.getD w 0 V.undef),V.toInt (List.getD w 1 V.undef)⟩
instance:Inhabited X':=⟨X'.of []⟩
structure I' where
  id:G'
  at_:X'
abbrev I'.sh:List CK:=[.int .i64,.int .i64,.int .i64,.int .i64,.int .i64,.int .i64]
abbrev I'.ts:List T:=[.int .i64,.int .i64,.int .i64,.int .i64,.int .i64,.int .i64]
def I'.row (s:I'):List V:=[.int .i64 s.id.Comp,.int .i64 s.id.Res,.int .i64 s.id.Precinct,.int .i64 s.id.Layer,.int .i64 s.at_.X,.int .i64 s.at_.Y]
def I'.v (s:I'):V:=.agg s.row
def I'.of (w:List V):I':=⟨⟨V.toInt (List.getD w 0 V.undef),V.toInt (List.getD w 1 V.undef),V.toInt (List.getD w 2 V.undef),V.toInt (List.getD w 3 V.undef)⟩,⟨V.toInt (List.getD w 4 V.undef),V.toInt (List.getD w 5 V.undef)⟩⟩
instance:Inhabited I':=⟨I'.of []⟩
structure A_f where
  e0:F'
  e1:F'
  e2:F'
  e3:F'
abbrev A_f.sh:List CK:=[.int .i64,.int .i64,.int .i64,.int .i64,.int .i64,.int .i64,.int .i64,.int .i64,.int .i64,.int .i64,.int .i64,.int .i64,.int .i64,.int .i64,.int .i64,.int .i64]
abbrev A_f.ts:List T:=[.int .i64,.int .i64,.int .i64,.int .i64,.int .i64,.int .i64,.int .i64,.int .i64,.int .i64,.int .i64,.int .i64,.int .i64,.int .i64,.int .i64,.int .i64,.int .i64]
def A_f.row (s:A_f):List V:=[.int .i64 s.e0.X0,.int .i64 s.e0.Y0,.int .i64 s.e0.X1,.int .i64 s.e0.Y1,.int .i64 s.e1.X0,.int .i64 s.e1.Y0,.int .i64 s.e1.X1,.int .i64 s.e1.Y1,.int .i64 s.e2.X0,.int .i64 s.e2.Y0,.int .i64 s.e2.X1,.int .i64 s.e2.Y1,.int .i64 s.e3.X0,.int .i64 s.e3.Y0,.int .i64 s.e3.X1,.int .i64 s.e3.Y1]
def A_f.v (s:A_f):V:=.agg s.row
def A_f.of (w:List V):A_f:=⟨⟨V.toInt (List.getD w 0 V.undef),V.toInt (List.getD w 1 V.undef),V.toInt (List.getD w 2 V.undef),V.toInt (List.getD w 3 V.undef)⟩,⟨V.toInt (List.getD w 4 V.undef),V.toInt (List.getD w 5 V.undef),V.toInt (List.getD w 6 V.undef),V.toInt (List.getD w 7 V.undef)⟩,⟨V.toInt (List.getD w 8 V.undef),V.toInt (List.getD w 9 V.undef),V.toInt (List.getD w 10 V.undef),V.toInt (List.getD w 11 V.undef)⟩,⟨V.toInt (List.getD w 12 V.undef),V.toInt (List.getD w 13 V.undef),V.toInt (List.getD w 14 V.undef),V.toInt (List.getD w 15 V.undef)⟩⟩
instance:Inhabited A_f:=⟨A_f.of []⟩
structure Y' where
  e0:Int
  e1:Int
  e2:Int
  e3:Int
  e4:Int
  e5:Int
abbrev Y'.sh:List CK:=[.int .i64,.int .i64,.int .i64,.int .i64,.int .i64,.int .i64]
abbrev Y'.ts:List T:=[.int .i64,.int .i64,.int .i64,.int .i64,.int .i64,.int .i64]
def Y'.row (s:Y'):List V:=[.int .i64 s.e0,.int .i64 s.e1,.int .i64 s.e2,.int .i64 s.e3,.int .i64 s.e4,.int .i64 s.e5]
def Y'.v (s:Y'):V:=.agg s.row
def Y'.of (w:List V):Y':=⟨V.toInt (List.getD w 0 V.undef),V.toInt (List.getD w 1 V.undef),V.toInt (List.getD w 2 V.undef),V.toInt (List.getD w 3 V.undef),V.toInt (List.getD w 4 V.undef),V.toInt (List.getD w 5 V.undef)⟩
instance:Inhabited Y':=⟨Y'.of []⟩
structure A_a where
  cols:Int
  rows:Int
  blocks:Rows
abbrev A_a.sh:List CK:=[.int .i64,.int .i64,.sl F'.sh]
abbrev A_a.ts:List T:=[.int .i64,.int .i64,.data F'.sh]
def A_a.row (s:A_a):List V:=[.int .i64 s.cols,.int .i64 s.rows,.data F'.sh s.blocks]
def A_a.v (s:A_a):V:=.agg s.row
def A_a.of (w:List V):A_a:=⟨V.toInt (List.getD w 0 V.undef),V.toInt (List.getD w 1 V.undef),V.toRows (List.getD w 2 V.undef)⟩
instance:Inhabited A_a:=⟨A_a.of []⟩
structure Z' where
  ID:G'
  N:Y'
abbrev Z'.sh:List CK:=[.int .i64,.int .i64,.int .i64,.int .i64,.int .i64,.int .i64,.int .i64,.int .i64,.int .i64,.int .i64]
abbrev Z'.ts:List T:=[.int .i64,.int .i64,.int .i64,.int .i64,.int .i64,.int .i64,.int .i64,.int .i64,.int .i64,.int .i64]
def Z'.row (s:Z'):List V:=[.int .i64 s.ID.Comp,.int .i64 s.ID.Res,.int .i64 s.ID.Precinct,.int .i64 s.ID.Layer,.int .i64 s.N.e0,.int .i64 s.N.e1,.int .i64 s.N.e2,.int .i64 s.N.e3,.int .i64 s.N.e4,.int .i64 s.N.e5]
def Z'.v (s:Z'):V:=.agg s.row
def Z'.of (w:List V):Z':=⟨⟨V.toInt (List.getD w 0 V.undef),V.toInt (List.getD w 1 V.undef),V.toInt (List.getD w 2 V.undef),V.toInt (List.getD w 3 V.undef)⟩,⟨V.toInt (List.getD w 4 V.undef),V.toInt (List.getD w 5 V.undef),V.toInt (List.getD w 6 V.undef),V.toInt (List.getD w 7 V.undef),V.toInt (List.getD w 8 V.undef),V.toInt (List.getD w 9 V.undef)⟩⟩
instance:Inhabited Z':=⟨Z'.of []⟩
abbrev A_0:TypeId:=67
abbrev h_f:TypeId:=3
def V_b (x:List Int):Bool:=true
def O_I (x:List Int):Bool:=decide (0<=x.getD 0 0)&&decide (x.getD 0 0<9223372036854775808)
def A_1 (r:F'):Bool:=(r.X0==0)&&((r.Y0==0)&&((r.X1==0)&&((r.Y1==0)&&true)))
noncomputable def M_4 (a:F'):Bool:=let b:=decide (0<=a.X0);let c:Bool:=(bif b then (decide (a.X0<=a.X1)) else false);let d:=decide (a.X1<=4096);let e:Bool:=(bif c then d else false);let f:=decide (0<=a.Y0);let g:Bool:=(bif e then f else false);let i:Bool:=(bif g then (decide (a.Y0<=a.Y1)) else false);let j:=decide (a.Y1<=4096);let m:Bool:=(bif i then j else false);m
noncomputable def O_b (a:F'):Bool:=let b:Bool:=(bif (decide (a.X0 >= a.X1)) then true else (decide (a.Y0 >= a.Y1)));b
noncomputable def P_L (a b c:Int):Bool:=let d:Bool:=(bif (decide (b<=a)) then (decide (a<=c)) else false);d
noncomputable def K_b (b a:Int):Int:=let d:=decide (a<1);bif d then 0 else bif (a != 0) then let c:=IntKind.wrap .i64 (Int.tdiv b a);bif (a != 0) then let e:=decide ((Int.tmod b a) > 0);bif e then let f:=IntKind.wrap .i64 (c+1);f else c else default else default
noncomputable def h_g (b a:Int):Bool:=let c:=decide (a<1);bif c then true else bif (a != 0) then bif (a != 0) then let d:=decide ((Int.tmod b a) > 0);bif d then true else true else false else false
noncomputable def M_u (a:F') (b c:Int):F':=let d:=M_4 a;let e:=decide (b<1);let f:Bool:=(bif (!d) then true else e);let g:=decide (b > 4096);let i:Bool:=(bif f then true else g);let j:=decide (c<1);let m:Bool:=(bif i then true else j);let o:=decide (c > 4096);let p:Bool:=(bif m then true else o);bif p then (F'.mk 0 0 0 0) else let q:=K_b a.X0 b;let r:=K_b a.Y0 c;let s:=K_b a.X1 b;let t:=K_b a.Y1 c;(F'.mk q r s t)
noncomputable def M_5 (b a:Int):Int:=let d:=decide (a<1);bif d then 0 else bif (a != 0) then let c:=IntKind.wrap .i64 (Int.tdiv b a);bif (a != 0) then let e:=decide ((Int.tmod b a)<0);bif e then let f:=IntKind.wrap .i64 (c-1);f else c else default else default
noncomputable def h_h (b a:Int):Bool:=let c:=decide (a<1);bif c then true else bif (a != 0) then bif (a != 0) then let d:=decide ((Int.tmod b a)<0);bif d then true else true else false else false
noncomputable def q_J (a:D'):Int:=let b:=K_b a.Area.X1 a.TileW;let c:=M_5 a.Area.X0 a.TileW;let d:=IntKind.wrap .i64 (b-c);let e:=K_b a.Area.Y1 a.TileH;let f:=M_5 a.Area.Y0 a.TileH;let g:=IntKind.wrap .i64 (e-f);let i:=IntKind.wrap .i64 (d*g);i
noncomputable def q_K (a:F'):Int:=let b:=M_4 a;bif (!b) then 0 else let c:=IntKind.wrap .i64 (a.X1-a.X0);let d:=IntKind.wrap .i64 (a.Y1-a.Y0);let e:=IntKind.wrap .i64 (c*d);e
def inB (lo hi x:Int):Bool:=!(bif decide (x<lo) then true else decide (x > hi))
def K_F (a b:Int) (c:Rows):Bool:=c.all fun w=>inB a b (V.toInt (List.getD w 0 V.undef))
def A_O (b c:Int) (a:Rows):Bool:=Nat.ble a.length 1048576
noncomputable def C_R (a:F'):Bool:=let b:Bool:=(bif (decide (a.X0 >= a.X1)) then true else (decide (a.Y0 >= a.Y1)));b
noncomputable def A_3 (a:F'):Bool:=let b:=decide (0<=a.X0);let c:Bool:=(bif b then (decide (a.X0<=a.X1)) else false);let d:=decide (a.X1<=4096);let e:Bool:=(bif c then d else false);let f:=decide (0<=a.Y0);let g:Bool:=(bif e then f else false);let i:Bool:=(bif g then (decide (a.Y0<=a.Y1)) else false);let j:=decide (a.Y1<=4096);let m:Bool:=(bif i then j else false);m
noncomputable def B_F (b a:Int):Int:=let d:=decide (a<1);bif d then 0 else bif (a != 0) then let c:=IntKind.wrap .i64 (Int.tdiv b a);bif (a != 0) then let e:=decide ((Int.tmod b a) > 0);bif e then let f:=IntKind.wrap .i64 (c+1);f else c else default else default
noncomputable def h_i (b a:Int):Bool:=let c:=decide (a<1);bif c then true else bif (a != 0) then bif (a != 0) then let d:=decide ((Int.tmod b a) > 0);bif d then true else true else false else false
noncomputable def D_j (a:F') (b c:Int):F':=let d:=A_3 a;let e:=decide (b<1);let f:Bool:=(bif (!d) then true else e);let g:=decide (b > 4096);let i:Bool:=(bif f then true else g);let j:=decide (c<1);let m:Bool:=(bif i then true else j);let o:=decide (c > 4096);let p:Bool:=(bif m then true else o);bif p then (F'.mk 0 0 0 0) else let q:=B_F a.X0 b;let r:=B_F a.Y0 c;let s:=B_F a.X1 b;let t:=B_F a.Y1 c;(F'.mk q r s t)
noncomputable def j_C (a:F'):Int:=let b:=A_3 a;bif (!b) then 0 else let c:=IntKind.wrap .i64 (a.X1-a.X0);let d:=IntKind.wrap .i64 (a.Y1-a.Y0);let e:=IntKind.wrap .i64 (c*d);e
noncomputable def D_k (b a:Int):Int:=let d:=decide (a<1);bif d then 0 else bif (a != 0) then let c:=IntKind.wrap .i64 (Int.tdiv b a);bif (a != 0) then let e:=decide ((Int.tmod b a)<0);bif e then let f:=IntKind.wrap .i64 (c-1);f else c else default else default
noncomputable def h_j (b a:Int):Bool:=let c:=decide (a<1);bif c then true else bif (a != 0) then bif (a != 0) then let d:=decide ((Int.tmod b a)<0);bif d then true else true else false else false
def C_o (a:F') (w:List V):Bool:=inB 1 16 (H'.of w).Depth&&inB 1 4 (H'.of w).DX&&inB 1 4 (H'.of w).DY&&!C_R (D_j a (H'.of w).DX (H'.of w).DY)
def A_T (a:F') (w:List V):Bool:=!decide (j_C (D_j a (H'.of w).DX (H'.of w).DY) > 1048576)
def O_J (h:D'):Int:=IntKind.wrap .i64 (IntKind.wrap .i64 (B_F h.Area.X1 h.TileW-D_k h.Area.X0 h.TileW)*IntKind.wrap .i64 (B_F h.Area.Y1 h.TileH-D_k h.Area.Y0 h.TileH))
def M_6 (h:D'):Bool:=A_3 h.Area&&!C_R h.Area&&inB 1 4096 h.TileW&&inB 1 4096 h.TileH&&inB 1 4 (h.Components.length:Int)
def F_t (h:D'):Int :=
  bif M_6 h&&h.Components.all (C_o h.Area) then
    (bif decide (O_J h > 1024) then 5 else bif h.Components.all (A_T h.Area) then 0 else 5)
  else 12
def V_0 (h:D'):Int:=F_t h
noncomputable def O_K (a b:F'):F':=let c:Int:=(bif (decide (b.X0 > a.X0)) then b.X0 else a.X0);let d:Int:=(bif (decide (b.Y0 > a.Y0)) then b.Y0 else a.Y0);let e:Int:=(bif (decide (b.X1<a.X1)) then b.X1 else a.X1);let f:Int:=(bif (decide (b.Y1<a.Y1)) then b.Y1 else a.Y1);let g:=O_b (F'.mk c d e f);bif g then (F'.mk 0 0 0 0) else (F'.mk c d e f)
noncomputable def C_S (a b:F'):F':=let c:Int:=(bif (decide (b.X0 > a.X0)) then b.X0 else a.X0);let d:Int:=(bif (decide (b.Y0 > a.Y0)) then b.Y0 else a.Y0);let e:Int:=(bif (decide (b.X1<a.X1)) then b.X1 else a.X1);let f:Int:=(bif (decide (b.Y1<a.Y1)) then b.Y1 else a.Y1);let g:=C_R (F'.mk c d e f);bif g then (F'.mk 0 0 0 0) else (F'.mk c d e f)
def D_l (r:F') (w h j i:Int):F':=C_S r ⟨IntKind.wrap .i64 (i*w),IntKind.wrap .i64 (j*h),IntKind.wrap .i64 (IntKind.wrap .i64 (i+1)*w),IntKind.wrap .i64 (IntKind.wrap .i64 (j+1)*h)⟩
def M_7 (r:F') (w h:Int):Bool:=A_3 r&&!C_R r&&!decide (w<1)&&!decide (h<1)&&!decide (IntKind.wrap .i64 (IntKind.wrap .i64 (B_F r.X1 w-D_k r.X0 w)*IntKind.wrap .i64 (B_F r.Y1 h-D_k r.Y0 h)) > 65536)
def F_g (r:F') (w h:Int):List F':=bif M_7 r w h then
    (A_n (D_k r.Y0 h) (B_F r.Y1 h)).flatMap fun j=>(A_n (D_k r.X0 w) (B_F r.X1 w)).map fun i=>D_l r w h j i
  else []
def T_M (r:F') (w h:Int):Rows:=(F_g r w h).map F'.row
def h_k (r:F') (w h:Int):Rows:=T_M r w h
noncomputable def P_M (a:D'):Rows:=let b:=V_0 a;bif (b != 0) then [] else let c:=h_k a.Area a.TileW a.TileH;c
noncomputable def m_T (a:C'):Bool:=let b:=decide (a.Kernel >= 1);let c:=decide (a.Kernel<=3);let d:Bool:=(bif b then c else false);let e:=decide (a.Color >= 0);let f:Bool:=(bif d then e else false);let g:=decide (a.Color<=2);let i:Bool:=(bif f then g else false);let j:=decide (a.Order >= 1);let m:Bool:=(bif i then j else false);let o:=decide (a.Order<=5);let p:Bool:=(bif m then o else false);p
def F_u (l:Rows):Bool:=l.all fun w=>inB 1 65536 (V.toInt (List.getD w 0 V.undef))
def K_G (l:Rows):Bool:=(A_n 0 (l.length:Int)).all fun i=>inB (bif decide (1<i) then 1 else i) 12 (X'.of (l.getD i.toNat [])).X&&inB (bif decide (1<i) then 1 else i) 12 (X'.of (l.getD i.toNat [])).Y
def N_5 (p:C'):Bool:=inB 0 5 p.Levels&&inB 2 6 p.BlockX&&inB 2 6 p.BlockY&&inB 1 16 p.Layers&&inB 8 32 p.Dead&&inB 0 30 p.Shift&&((p.Steps.length:Int)==3*p.Levels+1)&&F_u p.Steps&&(((p.Precincts.length:Int)==0)||(((p.Precincts.length:Int)==p.Levels+1)&&K_G p.Precincts))
def V_c (a b:H'):Bool:=(a.Depth==b.Depth)&&((a.Signed==b.Signed)&&((a.DX==b.DX)&&((a.DY==b.DY)&&true)))
def O_L (h:D') (p:C'):Bool:=(p.Color==0)||(decide ((h.Components.length:Int) >= 3)&&V_c (H'.of (h.Components.getD 0 [])) (H'.of (h.Components.getD 1 []))&&V_c (H'.of (h.Components.getD 0 [])) (H'.of (h.Components.getD 2 [])))
def b_H (h:D') (p:C'):Bool:=N_5 p&&O_L h p
def r_X (p:C'):Bool:=N_5 p
noncomputable def Q_q (a:C') (b:Int):X':=let c:=decide (b<0);let d:=decide (b > a.Levels);let e:Bool:=(bif c then true else d);bif e then (X'.mk 0 0) else let f:=(((List.length a.Precincts):Nat):Int);bif (f==0) then (X'.mk 12 12) else let g:=(((List.length a.Precincts):Nat):Int);bif (decide (b >= g)) then (X'.mk 0 0) else bif (inR b (List.length a.Precincts)) then let i:=List.getD a.Precincts (Int.toNat b) [];let j:=X'.of i;j else default
noncomputable def h_l (a:C') (b:Int):Bool:=let c:=decide (b<0);let d:=decide (b > a.Levels);let e:Bool:=(bif c then true else d);bif e then true else let f:=(((List.length a.Precincts):Nat):Int);bif (f==0) then true else let g:=(((List.length a.Precincts):Nat):Int);bif (decide (b >= g)) then true else bif (inR b (List.length a.Precincts)) then true else false
noncomputable def f_N (a:F') (b c:Int):Int:=let d:=O_b a;bif d then 0 else bif (decide (0<=b)) then let e:=IntKind.wrap .i64 (1*2 ^ (min (Int.toNat b) 64));let f:=K_b a.X1 e;bif (decide (0<=b)) then let g:=IntKind.wrap .i64 (1*2 ^ (min (Int.toNat b) 64));let i:=M_5 a.X0 g;let j:=IntKind.wrap .i64 (f-i);bif (decide (0<=c)) then let m:=IntKind.wrap .i64 (1*2 ^ (min (Int.toNat c) 64));let o:=K_b a.Y1 m;bif (decide (0<=c)) then let p:=IntKind.wrap .i64 (1*2 ^ (min (Int.toNat c) 64));let q:=M_5 a.Y0 p;let r:=IntKind.wrap .i64 (o-q);let s:=IntKind.wrap .i64 (j*r);s else default else default else default else default
noncomputable def M_8 (c:F') (a b:Int):Bool:=let d:=O_b c;bif d then true else bif (decide (0<=a)) then bif (decide (0<=a)) then bif (decide (0<=b)) then bif (decide (0<=b)) then true else false else false else false else false
noncomputable def b_I (a:Int):Int:=let b:=decide (a<0);let c:=decide (a > 5);let d:Bool:=(bif b then true else c);bif d then 0 else let e:=IntKind.wrap .i64 (3*a);let f:=IntKind.wrap .i64 (e+1);f
noncomputable def M_v (a:Int):Bool:=let b:=decide (a >= 0);let c:=decide (a<=5);let d:Bool:=(bif b then c else false);d
noncomputable def F_h (e:F') (a b:Int):F':=let f:=M_v a;let g:=decide (b<0);let i:Bool:=(bif (!f) then true else g);let j:Bool:=(bif i then true else (decide (b > a)));bif j then (F'.mk 0 0 0 0) else let c:=IntKind.wrap .i64 (a-b);bif (decide (0<=(IntKind.wrap .u64 c))) then let d:=IntKind.wrap .i64 (1*2 ^ (min (Int.toNat (IntKind.wrap .u64 c)) 64));let m:=D_j e d d;m else default
noncomputable def h_m (i:F') (a b:Int):Bool:=let c:=M_v a;let d:=decide (b<0);let e:Bool:=(bif (!c) then true else d);let f:Bool:=(bif e then true else (decide (b > a)));bif f then true else let g:=IntKind.wrap .i64 (a-b);bif (decide (0<=(IntKind.wrap .u64 g))) then true else false
def P_N (r:F') (l i:Int):F':=F_h r l i
noncomputable def O_M (b a:Int):Rows:=let c:=M_v b;let d:=decide (a<0);let e:Bool:=(bif (!c) then true else d);let f:Bool:=(bif e then true else (decide (a > b)));bif f then [] else bif (a==0) then [[(V.int .i64 0)]] else let g:=IntKind.wrap .i64 (3*a);let i:=IntKind.wrap .i64 (g-2);let j:=IntKind.wrap .i64 (3*a);let m:=IntKind.wrap .i64 (j-1);let o:=IntKind.wrap .i64 (3*a);[[V.int .i64 i],[V.int .i64 m],[V.int .i64 o]]
noncomputable def V_d (a:F') (b c:Int):Int:=let f:=C_R a;bif f then 0 else bif (decide (0<=(IntKind.wrap .u64 b))) then let d:=IntKind.wrap .i64 (1*2 ^ (min (Int.toNat (IntKind.wrap .u64 b)) 64));bif (decide (0<=(IntKind.wrap .u64 c))) then let e:=IntKind.wrap .i64 (1*2 ^ (min (Int.toNat (IntKind.wrap .u64 c)) 64));let g:=B_F a.X1 d;let i:=D_k a.X0 d;let j:=IntKind.wrap .i64 (g-i);let m:=B_F a.Y1 e;let o:=D_k a.Y0 e;let p:=IntKind.wrap .i64 (m-o);let q:=IntKind.wrap .i64 (j*p);q else default else default
noncomputable def h_n (a:F') (b c:Int):Bool:=let d:=C_R a;bif d then true else bif (decide (0<=(IntKind.wrap .u64 b))) then bif (decide (0<=(IntKind.wrap .u64 c))) then true else false else false
noncomputable def V_e (a:Int):Int:=let b:=M_v a;bif (!b) then 0 else let c:=IntKind.wrap .i64 (3*a);let d:=IntKind.wrap .i64 (c+1);d
noncomputable def O_c (a b:Int):Int × Int × Bool:=let d:=decide (a<0);bif (d==false) then let e:=V_e b;bif (decide (a >= e)) then (0,0,false) else bif (a==0) then (b,0,true) else let f:=IntKind.wrap .i64 (a+2);let c:=IntKind.wrap .i64 (Int.tdiv f 3);let g:=IntKind.wrap .i64 (b-c);let i:=IntKind.wrap .i64 (g+1);let j:=IntKind.wrap .i64 (3*c);let m:=IntKind.wrap .i64 (a-j);let o:=IntKind.wrap .i64 (m+3);(i,o,true) else (0,0,false)
noncomputable def V_1 (a:F'):A_f:=let f:=A_3 a;bif (!f) then (A_f.mk (F'.mk 0 0 0 0) (F'.mk 0 0 0 0) (F'.mk 0 0 0 0) (F'.mk 0 0 0 0)) else let g:=intBits .and .i64 0 1;let b:=IntKind.wrap .i64 (1-g);let i:=IntKind.wrap .i64 (a.X0+b);let j:=IntKind.wrap .i64 (Int.tdiv i 2);let m:=IntKind.wrap .i64 (a.Y0+1);let o:=IntKind.wrap .i64 (Int.tdiv m 2);let p:=IntKind.wrap .i64 (a.X1+b);let q:=IntKind.wrap .i64 (Int.tdiv p 2);let r:=IntKind.wrap .i64 (a.Y1+1);let s:=IntKind.wrap .i64 (Int.tdiv r 2);let t:=intBits .and .i64 1 1;let c:=IntKind.wrap .i64 (1-t);let u:=IntKind.wrap .i64 (a.X0+c);let v:=IntKind.wrap .i64 (Int.tdiv u 2);let w:=IntKind.wrap .i64 (a.Y0+1);let y:=IntKind.wrap .i64 (Int.tdiv w 2);let z:=IntKind.wrap .i64 (a.X1+c);let A:=IntKind.wrap .i64 (Int.tdiv z 2);let B:=IntKind.wrap .i64 (a.Y1+1);let D:=IntKind.wrap .i64 (Int.tdiv B 2);let E:=intBits .and .i64 2 1;let d:=IntKind.wrap .i64 (1-E);let F:=IntKind.wrap .i64 (a.X0+d);let H:=IntKind.wrap .i64 (Int.tdiv F 2);let I:=IntKind.wrap .i64 (a.Y0+0);let J:=IntKind.wrap .i64 (Int.tdiv I 2);let K:=IntKind.wrap .i64 (a.X1+d);let L:=IntKind.wrap .i64 (Int.tdiv K 2);let M:=IntKind.wrap .i64 (a.Y1+0);let N:=IntKind.wrap .i64 (Int.tdiv M 2);let O:=intBits .and .i64 3 1;let e:=IntKind.wrap .i64 (1-O);let Q:=IntKind.wrap .i64 (a.X0+e);let S:=IntKind.wrap .i64 (Int.tdiv Q 2);let U:=IntKind.wrap .i64 (a.Y0+0);let W:=IntKind.wrap .i64 (Int.tdiv U 2);let X:=IntKind.wrap .i64 (a.X1+e);let Y:=IntKind.wrap .i64 (Int.tdiv X 2);let Z:=IntKind.wrap .i64 (a.Y1+0);let a0:=IntKind.wrap .i64 (Int.tdiv Z 2);(A_f.mk (F'.mk j o q s) (F'.mk v y A D) (F'.mk H J L N) (F'.mk S W Y a0))
noncomputable def Q_r (d:F') (c e:Int):F':=let b:=O_c e c;bif ((!b.2.2)==false) then let f:=A_3 d;bif (!f) then (F'.mk 0 0 0 0) else bif (e==0) then let g:=F_h d c 0;g else let i:=IntKind.wrap .i64 (c-b.1);let j:=IntKind.wrap .i64 (i+1);let m:=F_h d c j;let a:=V_1 m;bif (true&&(inR b.2.1 (4:Nat))) then let o:Int:=(bif (decide (b.2.1=((0:Nat):Int))) then a.e0.X0 else (bif (decide (b.2.1=((1:Nat):Int))) then a.e1.X0 else (bif (decide (b.2.1=((2:Nat):Int))) then a.e2.X0 else a.e3.X0)));let p:Int:=(bif (decide (b.2.1=((0:Nat):Int))) then a.e0.Y0 else (bif (decide (b.2.1=((1:Nat):Int))) then a.e1.Y0 else (bif (decide (b.2.1=((2:Nat):Int))) then a.e2.Y0 else a.e3.Y0)));let q:Int:=(bif (decide (b.2.1=((0:Nat):Int))) then a.e0.X1 else (bif (decide (b.2.1=((1:Nat):Int))) then a.e1.X1 else (bif (decide (b.2.1=((2:Nat):Int))) then a.e2.X1 else a.e3.X1)));let r:Int:=(bif (decide (b.2.1=((0:Nat):Int))) then a.e0.Y1 else (bif (decide (b.2.1=((1:Nat):Int))) then a.e1.Y1 else (bif (decide (b.2.1=((2:Nat):Int))) then a.e2.Y1 else a.e3.Y1)));(F'.mk o p q r) else default else (F'.mk 0 0 0 0)
noncomputable def h_o (c:F') (d a:Int):Bool:=let b:=O_c a d;bif ((!b.2.2)==false) then let e:=A_3 c;bif (!e) then true else bif (a==0) then true else bif (true&&(inR b.2.1 (4:Nat))) then true else false else true
noncomputable def A_X (a:C') (b:Int):X':=let c:=decide (b<0);let d:=decide (b > a.Levels);let e:Bool:=(bif c then true else d);bif e then (X'.mk 0 0) else let f:=(((List.length a.Precincts):Nat):Int);bif (f==0) then (X'.mk 12 12) else let g:=(((List.length a.Precincts):Nat):Int);bif (decide (b >= g)) then (X'.mk 0 0) else bif (inR b (List.length a.Precincts)) then let i:=List.getD a.Precincts (Int.toNat b) [];let j:=X'.of i;j else default
noncomputable def h_p (a:C') (b:Int):Bool:=let c:=decide (b<0);let d:=decide (b > a.Levels);let e:Bool:=(bif c then true else d);bif e then true else let f:=(((List.length a.Precincts):Nat):Int);bif (f==0) then true else let g:=(((List.length a.Precincts):Nat):Int);bif (decide (b >= g)) then true else bif (inR b (List.length a.Precincts)) then true else false
def K_c (p:C') (r:F') (res:Int):Bool:=(O_M p.Levels res).all fun w =>
  !decide (V_d (Q_r r p.Levels (V.toInt (List.getD w 0 V.undef)))
    (bif decide ((bif decide (res > 0) then IntKind.wrap .i64 ((A_X p res).X-1) else (A_X p res).X)<p.BlockX) then (bif decide (res > 0) then IntKind.wrap .i64 ((A_X p res).X-1) else (A_X p res).X) else p.BlockX)
    (bif decide ((bif decide (res > 0) then IntKind.wrap .i64 ((A_X p res).Y-1) else (A_X p res).Y)<p.BlockY) then (bif decide (res > 0) then IntKind.wrap .i64 ((A_X p res).Y-1) else (A_X p res).Y) else p.BlockY) > 65536)
def g_o (p:C') (r:F') (res:Int):Int:=IntKind.wrap .i64 (V_d (F_h r p.Levels res) (A_X p res).X (A_X p res).Y*p.Layers)
def A_p (t:F') (w:List V):F':=D_j t (H'.of w).DX (H'.of w).DY
def M_w (h:D') (p:C') (t:F'):Bool :=
  (h.Components.all fun w=>(A_n 0 (p.Levels+1)).all fun res=>K_c p (A_p t w) res) &&
  decide (h.Components.foldl (fun s w=>(A_n 0 (p.Levels+1)).foldl (fun s res=>IntKind.wrap .i64 (s+g_o p (A_p t w) res)) s) 0<=65536)
def O_N (h:D') (p:C') (t:F'):Bool:=Nat.ble h.Components.length 1048576&&decide (p.Levels<=5)
def T_N (h:D') (p:C') (t:F'):Int :=
  IntKind.wrap .i64 (h.Components.foldl (fun s w=>(A_n 0 (p.Levels+1)).foldl (fun s res=>IntKind.wrap .i64 (s+f_N (F_h (A_p t w) p.Levels res) (A_X p res).X (A_X p res).Y)) s) 0*p.Layers)
def F_v (h:D') (p:C') (t:F'):Bool:=Nat.ble h.Components.length 1048576&&decide (p.Levels<=5)&&((A_n 0 (p.Levels+1)).all fun res=>decide (0<=(A_X p res).X)&&decide (0<=(A_X p res).Y))
noncomputable def c_s (a b:Int):Int × Int × Bool:=let d:=decide (a<0);bif (d==false) then let e:=b_I b;bif (decide (a >= e)) then (0,0,false) else bif (a==0) then (b,0,true) else let f:=IntKind.wrap .i64 (a+2);let c:=IntKind.wrap .i64 (Int.tdiv f 3);let g:=IntKind.wrap .i64 (b-c);let i:=IntKind.wrap .i64 (g+1);let j:=IntKind.wrap .i64 (3*c);let m:=IntKind.wrap .i64 (a-j);let o:=IntKind.wrap .i64 (m+3);(i,o,true) else (0,0,false)
noncomputable def B_9 (a:Int) (b:Bool):Int:=bif b then let c:=IntKind.wrap .i64 (Int.tdiv a 2);c else let d:=IntKind.wrap .i64 (a+1);let e:=IntKind.wrap .i64 (Int.tdiv d 2);e
noncomputable def h_q (a:F'):A_f:=let b:=M_4 a;bif (!b) then (A_f.mk (F'.mk 0 0 0 0) (F'.mk 0 0 0 0) (F'.mk 0 0 0 0) (F'.mk 0 0 0 0)) else let c:=B_9 a.X0 false;let d:=B_9 a.Y0 false;let e:=B_9 a.X1 false;let f:=B_9 a.Y1 false;let g:=B_9 a.X0 true;let i:=B_9 a.Y0 false;let j:=B_9 a.X1 true;let m:=B_9 a.Y1 false;let o:=B_9 a.X0 false;let p:=B_9 a.Y0 true;let q:=B_9 a.X1 false;let r:=B_9 a.Y1 true;let s:=B_9 a.X0 true;let t:=B_9 a.Y0 true;let u:=B_9 a.X1 true;let v:=B_9 a.Y1 true;(A_f.mk (F'.mk c d e f) (F'.mk g i j m) (F'.mk o p q r) (F'.mk s t u v))
noncomputable def c_t (d:F') (c e:Int):F':=let b:=c_s e c;bif ((!b.2.2)==false) then let f:=M_4 d;bif (!f) then (F'.mk 0 0 0 0) else bif (e==0) then let g:=P_N d c 0;g else let i:=IntKind.wrap .i64 (c-b.1);let j:=IntKind.wrap .i64 (i+1);let m:=P_N d c j;let a:=h_q m;bif (true&&(inR b.2.1 (4:Nat))) then let o:Int:=(bif (decide (b.2.1=((0:Nat):Int))) then a.e0.X0 else (bif (decide (b.2.1=((1:Nat):Int))) then a.e1.X0 else (bif (decide (b.2.1=((2:Nat):Int))) then a.e2.X0 else a.e3.X0)));let p:Int:=(bif (decide (b.2.1=((0:Nat):Int))) then a.e0.Y0 else (bif (decide (b.2.1=((1:Nat):Int))) then a.e1.Y0 else (bif (decide (b.2.1=((2:Nat):Int))) then a.e2.Y0 else a.e3.Y0)));let q:Int:=(bif (decide (b.2.1=((0:Nat):Int))) then a.e0.X1 else (bif (decide (b.2.1=((1:Nat):Int))) then a.e1.X1 else (bif (decide (b.2.1=((2:Nat):Int))) then a.e2.X1 else a.e3.X1)));let r:Int:=(bif (decide (b.2.1=((0:Nat):Int))) then a.e0.Y1 else (bif (decide (b.2.1=((1:Nat):Int))) then a.e1.Y1 else (bif (decide (b.2.1=((2:Nat):Int))) then a.e2.Y1 else a.e3.Y1)));(F'.mk o p q r) else default else (F'.mk 0 0 0 0)
noncomputable def h_r (c:F') (d a:Int):Bool:=let b:=c_s a d;bif ((!b.2.2)==false) then let e:=M_4 c;bif (!e) then true else bif (a==0) then true else bif (true&&(inR b.2.1 (4:Nat))) then true else false else true
def blX (p:C') (i:Int):Int:=(fun x=>bif decide (x<p.BlockX) then x else p.BlockX) (IntKind.wrap .i64 ((A_X p ((i+2) / 3)).X-(bif decide (1<(i+2) / 3) then 1 else (i+2) / 3)))
def blY (p:C') (i:Int):Int:=(fun x=>bif decide (x<p.BlockY) then x else p.BlockY) (IntKind.wrap .i64 ((A_X p ((i+2) / 3)).Y-(bif decide (1<(i+2) / 3) then 1 else (i+2) / 3)))
def h_s (h:D') (p:C') (t:F'):Int :=
  h.Components.foldl (fun s w=>(A_n 0 (3*p.Levels+1)).foldl (fun s i=>(fun c=>bif decide (c > s) then c else s) (f_N (c_t (A_p t w) p.Levels i) (blX p i) (blY p i))) s) 0
def O_O (h:D') (p:C') (t:F'):Bool:=Nat.ble h.Components.length 1048576&&decide (0<=p.Levels)&&decide (p.Levels<=5)&&((A_n 0 (3*p.Levels+1)).all fun i=>decide (0<=blX p i)&&decide (0<=blY p i))
def P_O (p:C'):Bool:=inB 1 3 p.Kernel&&inB 0 2 p.Color&&inB 1 5 p.Order
def G_Y (h:D') (p:C'):Int :=
  bif F_t h != 0 then F_t h
  else bif !P_O p then 3
  else bif !b_H h p then 13
  else bif (F_g h.Area h.TileW h.TileH).all fun t=>M_w h p t then 0
  else 5
def V_2 (h:D') (p:C'):Int:=G_Y h p
noncomputable def h_t (a:D') (d:C') (b c:Int):Bool:=let e:=V_2 a d;let f:=decide (b >= 0);let g:Bool:=(bif (e==0) then f else false);bif (g==true) then let i:=P_M a;let j:=(((List.length i):Nat):Int);let m:=decide (c >= 0);let o:Bool:=(bif (decide (b<j)) then m else false);bif (o==true) then let p:=(((List.length a.Components):Nat):Int);(decide (c<p)) else false else false
noncomputable def g_p (a:D') (b:C') (c:Int):Int:=let f:=h_t a b c 0;bif (!f) then 0 else let d:=P_M a;bif (inR c (List.length d)) then let g:=List.getD d (Int.toNat c) [];let e:=F'.of g;bif (F_v a b e) then let i:=T_N a b e;i else default else default
noncomputable def R_a (a:D') (c:C') (b:Int):Bool:=let e:=h_t a c b 0;bif (!e) then true else let d:=P_M a;bif (inR b (List.length d)) then let f:=List.getD d (Int.toNat b) [];let g:=F'.of f;bif (F_v a c g) then true else false else false
noncomputable def B_f (a:D'):Rows:=let b:=F_t a;bif (b != 0) then [] else let c:=T_M a.Area a.TileW a.TileH;c
def h_u (h:D') (p:C'):Bool :=
  bif decide ((h.Components.length:Int) > 10)||decide ((p.Precincts.length:Int) > 10)||decide ((p.Steps.length:Int) > 40) then false
  else bif F_t h != 0 then true
  else bif decide (IntKind.wrap .i64 (h.Area.X1-h.Area.X0) > 40)||decide (IntKind.wrap .i64 (h.Area.Y1-h.Area.Y0) > 40)||decide (((B_f h).length:Int) > 16) then false
  else bif G_Y h p != 0 then true
  else (A_n 0 ((B_f h).length:Int)).all fun t=>!decide (g_p h p t > 400)
noncomputable def q_L (a b:Rows):Bool:=let c:=ByteArray.toList (bytesOfRows a)==ByteArray.toList (bytesOfRows b);c
def K_d (a0:Rows) (s:U') (o:Rows):Rows:=(fun (x y:Int)=>bif decide (x<y) then putRows o x.toNat (List.take (y.toNat-x.toNat) (List.drop x.toNat (List.take y.toNat a0))) else o) (bif decide ((0:Int) > s.From) then 0 else s.From) (bif decide ((a0.length:Int)<s.To) then (a0.length:Int) else s.To)
def m_U (a b:Rows):Rows:=b.foldl (fun o w=>K_d a (U'.of w) o) (List.replicate a.length [V.int .u8 0])
def O_P (a b:Rows):Bool:=Nat.ble a.length 1048576&&Nat.ble b.length 1048576
noncomputable def g_q:Bool:=bif (O_P [[(V.int .u8 1)],[(V.int .u8 2)],[(V.int .u8 3)],[(V.int .u8 4)]] [[(V.int .i64 1),(V.int .i64 3)]]) then let a:=m_U [[(V.int .u8 1)],[(V.int .u8 2)],[(V.int .u8 3)],[(V.int .u8 4)]] [[(V.int .i64 1),(V.int .i64 3)]];let b:=q_L a [[(V.int .u8 0)],[(V.int .u8 2)],[(V.int .u8 3)],[(V.int .u8 0)]];b else default
noncomputable def F_i:Bool:=bif (O_P [[(V.int .u8 1)],[(V.int .u8 2)],[(V.int .u8 3)],[(V.int .u8 4)]] [[(V.int .i64 1),(V.int .i64 3)]]) then true else false
def m_V (a:Rows):Rows:=a
def K_H (a:Rows):Bool:=roomOK (0+a.length) 32
def m_W (a:Rows):Rows:=a
def K_I (a:Rows):Bool:=roomOK (0+a.length) 16
def m_X (a:Rows):Rows:=a
def K_J (a:Rows):Bool:=roomOK (0+a.length) 8
noncomputable def c_u (b:D') (a:C'):D' × C':=bif (K_H b.Components) then let c:=m_V b.Components;bif (K_I a.Precincts) then let d:=m_W a.Precincts;bif (K_J a.Steps) then let e:=m_X a.Steps;((D'.mk b.Area b.TileW b.TileH c),(C'.mk a.Kernel a.Levels a.Color a.BlockX a.BlockY d a.Order a.Layers a.Mode a.Divide a.Sync a.Fence e a.Dead a.Shift)) else default else default else default
noncomputable def G_Z (b:D') (a:C'):Bool:=bif (K_H b.Components) then bif (K_I a.Precincts) then bif (K_J a.Steps) then true else false else false else false
noncomputable def O_Q (b:D') (c:C') (a:O'):D' × Int:=let d:=G_Y b c;bif (d != 0) then ((D'.mk (F'.mk 0 0 0 0) 0 0 []),d) else let r:=decide (a.Layers<0);let s:=decide (a.Layers > 16);let t:Bool:=(bif r then true else s);let u:=decide (a.Drop<0);let v:Bool:=(bif t then true else u);let w:=decide (a.Drop > c.Levels);let y:Bool:=(bif v then true else w);bif y then ((D'.mk (F'.mk 0 0 0 0) 0 0 []),2) else let z:=!((a.Window.X0==0)&&((a.Window.Y0==0)&&((a.Window.X1==0)&&((a.Window.Y1==0)&&true))));bif z then let e:=C_S b.Area a.Window;let A:=A_3 a.Window;bif ((!A)==false) then let B:=C_R e;bif B then ((D'.mk (F'.mk 0 0 0 0) 0 0 []),2) else let f:=IntKind.wrap .u64 a.Drop;bif (decide (0<=f)) then let g:=IntKind.wrap .i64 (1*2 ^ (min (Int.toNat f) 64));bif (G_Z b (C'.mk 0 0 0 0 0 [] 0 0 (K'.mk false false false false false) false false false [] 0 0)) then let i:=c_u b (C'.mk 0 0 0 0 0 [] 0 0 (K'.mk false false false false false) false false false [] 0 0);let j:=D_j e g g;let D:=F_t (D'.mk j 4096 4096 i.1.Components);bif (D != 0) then ((D'.mk (F'.mk 0 0 0 0) 0 0 []),2) else ((D'.mk j 4096 4096 i.1.Components),0) else default else default else ((D'.mk (F'.mk 0 0 0 0) 0 0 []),2) else let m:=IntKind.wrap .u64 a.Drop;bif (decide (0<=m)) then let o:=IntKind.wrap .i64 (1*2 ^ (min (Int.toNat m) 64));bif (G_Z b (C'.mk 0 0 0 0 0 [] 0 0 (K'.mk false false false false false) false false false [] 0 0)) then let p:=c_u b (C'.mk 0 0 0 0 0 [] 0 0 (K'.mk false false false false false) false false false [] 0 0);let q:=D_j b.Area o o;let E:=F_t (D'.mk q 4096 4096 p.1.Components);bif (E != 0) then ((D'.mk (F'.mk 0 0 0 0) 0 0 []),2) else ((D'.mk q 4096 4096 p.1.Components),0) else default else default
noncomputable def R_b (b:D') (c:C') (a:O'):Bool:=let j:=G_Y b c;bif (j != 0) then true else let m:=decide (a.Layers<0);let o:=decide (a.Layers > 16);let p:Bool:=(bif m then true else o);let q:=decide (a.Drop<0);let r:Bool:=(bif p then true else q);let s:=decide (a.Drop > c.Levels);let t:Bool:=(bif r then true else s);bif t then true else let u:=!((a.Window.X0==0)&&((a.Window.Y0==0)&&((a.Window.X1==0)&&((a.Window.Y1==0)&&true))));bif u then let d:=C_S b.Area a.Window;let v:=A_3 a.Window;bif ((!v)==false) then let w:=C_R d;bif w then true else let e:=IntKind.wrap .u64 a.Drop;bif (decide (0<=e)) then let f:=IntKind.wrap .i64 (1*2 ^ (min (Int.toNat e) 64));bif (G_Z b (C'.mk 0 0 0 0 0 [] 0 0 (K'.mk false false false false false) false false false [] 0 0)) then let y:=c_u b (C'.mk 0 0 0 0 0 [] 0 0 (K'.mk false false false false false) false false false [] 0 0);let z:=D_j d f f;let A:=F_t (D'.mk z 4096 4096 y.1.Components);bif (A != 0) then true else true else false else false else true else let g:=IntKind.wrap .u64 a.Drop;bif (decide (0<=g)) then let i:=IntKind.wrap .i64 (1*2 ^ (min (Int.toNat g) 64));bif (G_Z b (C'.mk 0 0 0 0 0 [] 0 0 (K'.mk false false false false false) false false false [] 0 0)) then let B:=c_u b (C'.mk 0 0 0 0 0 [] 0 0 (K'.mk false false false false false) false false false [] 0 0);let D:=D_j b.Area i i;let E:=F_t (D'.mk D 4096 4096 B.1.Components);bif (E != 0) then true else true else false else false
noncomputable def T_r (a:D') (d:C') (b:Int):Int:=let c:=G_Y a d;bif (c != 0) then c else let e:=decide (b<0);bif (e==false) then let f:=B_f a;let g:=(((List.length f):Nat):Int);bif (decide (b >= g)) then 14 else 0 else 14
noncomputable def H_z (a:D') (b c:Int):F':=let d:=B_f a;let f:=decide (b<0);bif (f==false) then let g:=(((List.length d):Nat):Int);let i:=decide (c<0);let j:Bool:=(bif (decide (b >= g)) then true else i);bif (j==false) then let m:=(((List.length a.Components):Nat):Int);bif (decide (c >= m)) then (F'.mk 0 0 0 0) else bif (inR c (List.length a.Components)) then let o:=List.getD a.Components (Int.toNat c) [];let e:=H'.of o;bif (inR b (List.length d)) then let p:=List.getD d (Int.toNat b) [];let q:=F'.of p;let r:=D_j q e.DX e.DY;r else default else default else (F'.mk 0 0 0 0) else (F'.mk 0 0 0 0)
noncomputable def h_v (a:D') (b c:Int):Bool:=let d:=B_f a;let e:=decide (b<0);bif (e==false) then let f:=(((List.length d):Nat):Int);let g:=decide (c<0);let i:Bool:=(bif (decide (b >= f)) then true else g);bif (i==false) then let j:=(((List.length a.Components):Nat):Int);bif (decide (c >= j)) then true else bif (inR c (List.length a.Components)) then bif (inR b (List.length d)) then true else false else false else true else true
noncomputable def c_v (a:D') (d:C') (b c:Int):Bool:=let e:=G_Y a d;let f:=decide (b >= 0);let g:Bool:=(bif (e==0) then f else false);bif (g==true) then let i:=B_f a;let j:=(((List.length i):Nat):Int);let m:=decide (c >= 0);let o:Bool:=(bif (decide (b<j)) then m else false);bif (o==true) then let p:=(((List.length a.Components):Nat):Int);(decide (c<p)) else false else false
noncomputable def j_D (a b c:Int):Bool:=let d:=decide (a >= 0);let e:Bool:=(bif d then (decide (a<=c)) else false);let f:=decide (b >= 0);let g:Bool:=(bif e then f else false);let i:Bool:=(bif g then (decide (b<=c)) else false);i
noncomputable def g_r (c d a:Int):Int × Int:=bif (decide (0<=(IntKind.wrap .u64 a))) then let b:=Int.fdiv c (2 ^ (min (Int.toNat (IntKind.wrap .u64 a)) 64));let e:=IntKind.wrap .i64 (d-1);bif (decide (0<=(IntKind.wrap .u64 a))) then let f:=Int.fdiv e (2 ^ (min (Int.toNat (IntKind.wrap .u64 a)) 64));let g:=IntKind.wrap .i64 (f-b);let i:=IntKind.wrap .i64 (g+1);(b,i) else default else default
noncomputable def h_w (b c a:Int):Bool:=bif (decide (0<=(IntKind.wrap .u64 a))) then bif (decide (0<=(IntKind.wrap .u64 a))) then true else false else false
noncomputable def A_J (a:F') (d e f:Int):Int × Int × Int × Int:=let g:=A_3 a;bif ((!g)==false) then let i:=C_R a;bif (i==false) then let j:=j_D d e f;bif (!j) then (0,0,0,0) else let b:=g_r a.X0 a.X1 d;let c:=g_r a.Y0 a.Y1 e;let m:=IntKind.wrap .i64 (b.2*c.2);let o:=decide (m > 65536);bif o then (0,0,0,0) else (b.1,c.1,b.2,c.2) else (0,0,0,0) else (0,0,0,0)
noncomputable def m_i (b:F') (c d:Int):Int × Int:=let a:=A_J b c d 12;(a.2.2.1,a.2.2.2)
noncomputable def M_9 (c:D') (a:C') (d e b:Int):F' × Int × Int:=let j:=c_v c a d e;let m:=decide (b<0);let o:Bool:=(bif (!j) then true else m);let p:=decide (b > a.Levels);let q:Bool:=(bif o then true else p);bif q then ((F'.mk 0 0 0 0),0,0) else let r:=H_z c d e;let f:=F_h r a.Levels b;let g:=A_X a b;let i:=m_i f g.X g.Y;(f,i.1,i.2)
noncomputable def K_K (c:F') (d e b:Int):Int × Int × Bool:=let a:=A_J c d e 12;let f:=decide (b<0);let g:=IntKind.wrap .i64 (a.2.2.1*a.2.2.2);let i:Bool:=(bif f then true else (decide (b >= g)));bif i then (0,0,false) else bif (a.2.2.1 != 0) then let j:=IntKind.wrap .i64 (a.1+(Int.tmod b a.2.2.1));bif (a.2.2.1 != 0) then let m:=IntKind.wrap .i64 (Int.tdiv b a.2.2.1);let o:=IntKind.wrap .i64 (a.2.1+m);(j,o,true) else default else default
noncomputable def c_w (c:F') (d e b:Int):Bool:=let a:=A_J c d e 12;let f:=decide (b<0);let g:=IntKind.wrap .i64 (a.2.2.1*a.2.2.2);let i:Bool:=(bif f then true else (decide (b >= g)));bif i then true else bif (a.2.2.1 != 0) then bif (a.2.2.1 != 0) then true else false else false
noncomputable def R_c (c d a b:Int):F':=bif (decide (0<=(IntKind.wrap .u64 a))) then let e:=IntKind.wrap .i64 (c*2 ^ (min (Int.toNat (IntKind.wrap .u64 a)) 64));bif (decide (0<=(IntKind.wrap .u64 b))) then let f:=IntKind.wrap .i64 (d*2 ^ (min (Int.toNat (IntKind.wrap .u64 b)) 64));let g:=IntKind.wrap .i64 (c+1);bif (decide (0<=(IntKind.wrap .u64 a))) then let i:=IntKind.wrap .i64 (g*2 ^ (min (Int.toNat (IntKind.wrap .u64 a)) 64));let j:=IntKind.wrap .i64 (d+1);bif (decide (0<=(IntKind.wrap .u64 b))) then let m:=IntKind.wrap .i64 (j*2 ^ (min (Int.toNat (IntKind.wrap .u64 b)) 64));(F'.mk e f i m) else default else default else default else default
noncomputable def h_x (c d a b:Int):Bool:=bif (decide (0<=(IntKind.wrap .u64 a))) then bif (decide (0<=(IntKind.wrap .u64 b))) then bif (decide (0<=(IntKind.wrap .u64 a))) then bif (decide (0<=(IntKind.wrap .u64 b))) then true else false else false else false else false
noncomputable def j_E (b:F') (c d e:Int):F' × Bool:=let a:=K_K b c d e;bif (!a.2.2) then ((F'.mk 0 0 0 0),false) else let f:=R_c a.1 a.2.1 c d;let g:=C_S b f;(g,true)
noncomputable def m_j (c:D') (d:C') (j:F') (a:G'):X' × Bool:=let e:=A_X d a.Res;let b:=j_E j e.X e.Y a.Precinct;bif (!b.2) then ((X'.mk 0 0),false) else bif (inR a.Comp (List.length c.Components)) then let m:=List.getD c.Components (Int.toNat a.Comp) [];let f:=H'.of m;let g:=IntKind.wrap .i64 (d.Levels-a.Res);bif (decide (0<=g)) then let i:=IntKind.wrap .i64 (1*2 ^ (min (Int.toNat g) 64));let o:=IntKind.wrap .i64 (b.1.X0*i);let p:=IntKind.wrap .i64 (o*f.DX);let q:=IntKind.wrap .i64 (b.1.Y0*i);let r:=IntKind.wrap .i64 (q*f.DY);((X'.mk p r),true) else default else default
noncomputable def R_d (d:D') (b:C') (e:F') (a:G'):Bool:=let c:=A_X b a.Res;let f:=j_E e c.X c.Y a.Precinct;bif (!f.2) then true else bif (inR a.Comp (List.length d.Components)) then let g:=IntKind.wrap .i64 (b.Levels-a.Res);bif (decide (0<=g)) then true else false else false
noncomputable def R_e (b:Int) (a:I'):Y':=bif (b==1) then (Y'.mk a.id.Layer a.id.Res a.id.Comp a.id.Precinct 0 0) else bif (b==2) then (Y'.mk a.id.Res a.id.Layer a.id.Comp a.id.Precinct 0 0) else bif (b==3) then (Y'.mk a.id.Res a.at_.Y a.at_.X a.id.Comp a.id.Precinct a.id.Layer) else bif (b==4) then (Y'.mk a.at_.Y a.at_.X a.id.Comp a.id.Res a.id.Precinct a.id.Layer) else (Y'.mk a.id.Comp a.at_.Y a.at_.X a.id.Res a.id.Precinct a.id.Layer)
noncomputable def h_y (a:Int):Bool:=(a != a)
noncomputable def N_a (a b:Int):Int:=let d:=h_y a;let c:=h_y b;bif d then bif c then 0 else (-1:Int) else bif c then 1 else bif (decide (a<b)) then (-1:Int) else bif (decide (a > b)) then 1 else 0
noncomputable def m_k (d e:I') (c:C'):Int:=let a:=R_e c.Order d;let b:=R_e c.Order e;bif (a.e0 != b.e0) then let f:=N_a a.e0 b.e0;f else bif (a.e1 != b.e1) then let g:=N_a a.e1 b.e1;g else bif (a.e2 != b.e2) then let i:=N_a a.e2 b.e2;i else bif (a.e3 != b.e3) then let j:=N_a a.e3 b.e3;j else bif (a.e4 != b.e4) then let m:=N_a a.e4 b.e4;m else bif (a.e5 != b.e5) then let o:=N_a a.e5 b.e5;o else 0
def c_x (lt:List V->List V->Bool) (s:Rows) (x:List V):Rows:=(s.reverse.dropWhile (lt x)).reverse++x::(s.reverse.takeWhile (lt x)).reverse
def N_b (lt:List V->List V->Bool) (l:Rows):Rows:=l.foldl (c_x lt) []
def R_f (h:D') (p:C') (tile comp res k layer:Int):List V:=I'.row ⟨⟨comp,res,k,layer⟩,(m_j h p (M_9 h p tile comp res).1 ⟨comp,res,k,0⟩).1⟩
def F_w (h:D') (p:C') (tile:Int):Rows:=(A_n 0 (h.Components.length:Int)).flatMap fun comp=>(A_n 0 (p.Levels+1)).flatMap fun res =>
  (A_n 0 (IntKind.wrap .i64 ((M_9 h p tile comp res).2.1*(M_9 h p tile comp res).2.2))).flatMap fun k=>(A_n 0 p.Layers).map fun layer=>R_f h p tile comp res k layer
def c_y (p:C') (a b:List V):Bool:=decide (m_k (I'.of a) (I'.of b) p<0)
def Q_s (h:D') (p:C') (tile:Int):Rows:=N_b (c_y p) (F_w h p tile)
def R_g (h:D') (p:C') (tile:Int):Bool:=T_r h p tile==0
def M_x (h:D') (p:C') (tile:Int):Rows × Int:=bif T_r h p tile != 0 then ([],T_r h p tile) else ((Q_s h p tile).map fun w=>G'.row (I'.of w).id,0)
noncomputable def O_d (a:Int):Int:=bif (a==1) then bif (a==1) then 2 else bif (a==3) then 4 else 0 else bif (a==2) then 2 else bif (a==3) then 4 else 0
def O_e (a:F') (l m:Int):Nat->Rows->F'->Rows × F'
  | 0,o,w=>(o,w)
  | n+1,o,w=>(fun (b:A_f)=>O_e a l m n (((o.set (3*n+1) (F'.row b.e1)).set (3*n+2) (F'.row b.e2)).set (3*n+3) (F'.row b.e3)) b.e0)
      (V_1 (C_S ⟨IntKind.wrap .i64 (w.X0-m),IntKind.wrap .i64 (w.Y0-m),IntKind.wrap .i64 (w.X1+m),IntKind.wrap .i64 (w.Y1+m)⟩ (F_h a l ((n:Int)+1))))
def N_c (a:F') (l res k:Int):Bool:=A_3 a&&decide (0<=l)&&decide (l<=5)&&decide (0<=res)&&decide (res<=l)&&(O_d k != 0)
def V_f (a:F') (l res:Int) (win:F') (k:Int):Rows:=bif N_c a l res k then
    (fun (w:F')=>bif C_R w then List.replicate (3*l+1).toNat (F'.row ⟨0,0,0,0⟩)
      else (fun (q:Rows × F')=>q.1.set 0 (F'.row q.2)) (O_e a l (O_d k) res.toNat (List.replicate (3*l+1).toNat (F'.row ⟨0,0,0,0⟩)) w))
    (C_S win (F_h a l res))
  else []
def T_O (l:Rows) (id:G'):Bool:=l.any fun w=>((G'.of w).Comp==id.Comp)&&(((G'.of w).Res==id.Res)&&(((G'.of w).Precinct==id.Precinct)&&(((G'.of w).Layer==id.Layer)&&true)))
def F_l (h:D') (p:C') (e:V'):Bool:=!decide (e.Tile<0)&&!decide (e.Tile >= ((B_f h).length:Int))&&!decide (e.Span.From<0)&&!decide (e.Span.To<e.Span.From)&&T_O (M_x h p e.Tile).1 e.ID
def pmap (l:Rows):Rows:=(A_n 0 (l.length:Int)).map fun i=>[G'.v (G'.of (List.getD l i.toNat [])),V.int .i64 i]
def D_7 (h:D') (p:C') (t:Int):List V:=[V.data G'.sh (M_x h p t).1,V.mdat (pmap (M_x h p t).1)]
def c_z (h:D') (tile:Int) (v:O'):F':=bif !A_1 v.Window then C_S (F'.of (List.getD (B_f h) tile.toNat [])) v.Window else F'.of (List.getD (B_f h) tile.toNat [])
def P_P (v:O'):Int:=IntKind.wrap .i64 (1*2 ^ (min (Int.toNat (IntKind.wrap .u64 v.Drop)) 64))
def F_j (h:D') (p:C') (tile:Int) (v:O') (comp:Int):Rows :=
  V_f (H_z h tile comp) p.Levels (IntKind.wrap .i64 (p.Levels-v.Drop)) (D_j (A_p (c_z h tile v) (List.getD h.Components comp.toNat [])) (P_P v) (P_P v)) p.Kernel
def B_J (h:D') (p:C') (tile:Int) (v:O') (id:N'):Bool:=!C_R (C_S id.Rect (F'.of (List.getD (F_j h p tile v id.Comp) id.Band.toNat [])))
def Q_t (h:D') (p:C') (l:Rows):Rows × Int:=bif l.all (fun w=>F_l h p (V'.of w)) then ((A_n 0 ((B_f h).length:Int)).map (D_7 h p),0) else ([],1)
def O_R (h:D') (p:C') (l:Rows):Bool:=(G_Y h p==0)&&Nat.ble l.length 1048576
noncomputable def T_s (c:D') (b:C') (a:O'):Int × C' × O' × Rows × D' × Int:=let f:=decide (a.Layers > 0);bif f then let g:Int:=(bif (decide (b.Layers<a.Layers)) then b.Layers else a.Layers);let i:=B_f c;let d:=IntKind.wrap .u64 a.Drop;bif (decide (0<=d)) then let j:=IntKind.wrap .i64 (1*2 ^ (min (Int.toNat d) 64));(g,b,a,i,c,j) else default else let m:=B_f c;let e:=IntKind.wrap .u64 a.Drop;bif (decide (0<=e)) then let o:=IntKind.wrap .i64 (1*2 ^ (min (Int.toNat e) 64));(b.Layers,b,a,m,c,o) else default
noncomputable def R_h (e:D') (f:C') (a:O'):Bool:=let b:=decide (a.Layers > 0);bif b then let c:=IntKind.wrap .u64 a.Drop;bif (decide (0<=c)) then true else false else let d:=IntKind.wrap .u64 a.Drop;bif (decide (0<=d)) then true else false
noncomputable def q_M (a b:U'):Int:=let c:=IntKind.wrap .i64 (a.From-b.From);c
noncomputable def j_F (b:N') (a:O') (c:Rows):Bool:=let d:=(a.Window.X0==0)&&((a.Window.Y0==0)&&((a.Window.X1==0)&&((a.Window.Y1==0)&&true)));bif ((inR b.Band (List.length c))||!(d==false)) then let e:=List.getD c (Int.toNat b.Band) [];let f:=F'.of e;bif (d==false) then let g:=C_S b.Rect f;let i:=C_R g;(!i) else true else default
noncomputable def N_d (c:N') (a:O') (d:Rows):Bool:=let b:=(a.Window.X0==0)&&((a.Window.Y0==0)&&((a.Window.X1==0)&&((a.Window.Y1==0)&&true)));bif ((inR c.Band (List.length d))||!(b==false)) then bif (b==false) then true else true else false
def A_H (f:List V->Bool):Rows->Int->Int
  | [],_=>-1
  | w::l,i=>bif f w then i else A_H f l (i+1)
def m_l (a:Rows) (b:O') (c:Rows):Int:=A_H (fun w=>j_F (N'.of w) b c) a 0
def K_L (a:Rows) (b:O') (c:Rows):Bool:=Nat.ble a.length 1099511627776&&a.all fun w=>N_d (N'.of w) b c
noncomputable def h_z (a:Rows) (b:O') (c:Rows):Bool:=bif (K_L a b c) then let d:=m_l a b c;let e:=decide (d >= 0);e else default
noncomputable def G_0 (a:Rows) (b:O') (c:Rows):Bool:=bif (K_L a b c) then true else false
noncomputable def b_J (i f:F') (g d e j:Int):F' × Bool:=let a:=K_K i d e j;bif ((!a.2.2)==false) then let m:=A_3 f;let o:=decide (g<0);let p:Bool:=(bif (!m) then true else o);let q:=decide (g > 3);let r:Bool:=(bif p then true else q);bif r then ((F'.mk 0 0 0 0),false) else bif (g != 0) then let s:Bool:=(bif (d==0) then true else (e==0));bif s then ((F'.mk 0 0 0 0),false) else let t:=IntKind.wrap .i64 (d-1);let u:=IntKind.wrap .i64 (e-1);let v:=R_c a.1 a.2.1 t u;let b:=C_S f v;let w:=(b.X0==0)&&((b.Y0==0)&&((b.X1==0)&&((b.Y1==0)&&true)));bif w then ((F'.mk 0 0 0 0),true) else (b,true) else let y:=R_c a.1 a.2.1 d e;let c:=C_S f y;let z:=(c.X0==0)&&((c.Y0==0)&&((c.X1==0)&&((c.Y1==0)&&true)));bif z then ((F'.mk 0 0 0 0),true) else (c,true) else ((F'.mk 0 0 0 0),false)
def O_f (a:F') (bx bY:Int):Int × Int × Rows :=
  ((A_J a bx bY 6).2.2.1,(A_J a bx bY 6).2.2.2,
    (A_n 0 (A_J a bx bY 6).2.2.2).flatMap fun r=>(A_n 0 (A_J a bx bY 6).2.2.1).map fun c =>
      F'.row (C_S a (R_c (IntKind.wrap .i64 ((A_J a bx bY 6).1+c)) (IntKind.wrap .i64 ((A_J a bx bY 6).2.1+r)) bx bY)))
noncomputable def h_A (o:D') (a:C') (p q d r:Int):A_a:=let e:=O_c d a.Levels;bif (!e.2.2) then (A_a.mk 0 0 []) else let y:=decide (d > 0);bif y then let z:=IntKind.wrap .i64 (a.Levels-e.1);let f:=IntKind.wrap .i64 (z+1);let s:=H_z o p q;let b:=A_X a f;let A:=F_h s a.Levels f;let B:=Q_r s a.Levels d;let g:=b_J A B e.2.1 b.X b.Y r;bif (!g.2) then (A_a.mk 0 0 []) else let D:=decide (f > 0);bif D then let t:=IntKind.wrap .i64 (b.X-1);let u:=IntKind.wrap .i64 (b.Y-1);let E:Int:=(bif (decide (t<a.BlockX)) then t else a.BlockX);let F:Int:=(bif (decide (u<a.BlockY)) then u else a.BlockY);let i:=O_f g.1 E F;(A_a.mk i.1 i.2.1 i.2.2) else let H:Int:=(bif (decide (b.X<a.BlockX)) then b.X else a.BlockX);let I:Int:=(bif (decide (b.Y<a.BlockY)) then b.Y else a.BlockY);let j:=O_f g.1 H I;(A_a.mk j.1 j.2.1 j.2.2) else let v:=H_z o p q;let c:=A_X a 0;let J:=F_h v a.Levels 0;let K:=Q_r v a.Levels d;let w:=b_J J K e.2.1 c.X c.Y r;bif (!w.2) then (A_a.mk 0 0 []) else let L:Int:=(bif (decide (c.X<a.BlockX)) then c.X else a.BlockX);let M:Int:=(bif (decide (c.Y<a.BlockY)) then c.Y else a.BlockY);let m:=O_f w.1 L M;(A_a.mk m.1 m.2.1 m.2.2)
def H_A (c r b p:Int) (l:Rows):Rows:=(A_n 0 (l.length:Int)).map fun i=>N'.row ⟨c,r,b,p,i,F'.of (l.getD i.toNat [])⟩
def T_P (band:Int) (h:D') (p:C') (tile:Int) (id:G'):Rows:=H_A id.Comp id.Res band id.Precinct (h_A h p tile id.Comp band id.Precinct).blocks
def V_3 (l:Rows):Rows:=l.flatMap fun w=>V.toRows (List.getD w 0 V.undef)
def N_e (l:Rows):Bool:=Nat.ble l.length 1099511627776&&Nat.ble (V_3 l).length 1099511627776
def M_y (h:D') (p:C') (tile:Int) (id:G'):Rows:=(O_M p.Levels id.Res).flatMap fun w=>T_P (V.toInt (List.getD w 0 V.undef)) h p tile id
noncomputable def f_O (a:D') (b:C') (c:Int) (d:G'):Rows:=let e:=c_v a b c d.Comp;bif (!e) then [] else let f:=M_y a b c d;f
noncomputable def m_m (e:Int) (b:G') (s:Int) (c:C') (a:O') (g:Rows) (d:D') (f:Int):Bool:=let t:=IntKind.wrap .i64 (c.Levels-a.Drop);let u:Bool:=(bif (decide (b.Layer >= s)) then true else (decide (b.Res > t)));bif u then false else bif (inR e (List.length g)) then let v:=List.getD g (Int.toNat e) [];let i:=F'.of v;let w:=!((a.Window.X0==0)&&((a.Window.Y0==0)&&((a.Window.X1==0)&&((a.Window.Y1==0)&&true))));bif w then let y:=C_S i a.Window;bif (inR b.Comp (List.length d.Components)) then let z:=List.getD d.Components (Int.toNat b.Comp) [];let j:=H'.of z;let A:=D_j y j.DX j.DY;let B:=D_j A f f;let D:=H_z d e b.Comp;let E:=IntKind.wrap .i64 (c.Levels-a.Drop);let m:=V_f D c.Levels E B c.Kernel;let o:=f_O d c e b;bif (G_0 o a m) then let F:=h_z o a m;F else default else default else bif (inR b.Comp (List.length d.Components)) then let H:=List.getD d.Components (Int.toNat b.Comp) [];let p:=H'.of H;let I:=D_j i p.DX p.DY;let J:=D_j I f f;let K:=H_z d e b.Comp;let L:=IntKind.wrap .i64 (c.Levels-a.Drop);let q:=V_f K c.Levels L J c.Kernel;let r:=f_O d c e b;bif (G_0 r a q) then let M:=h_z r a q;M else default else default else default
noncomputable def R_i (e:Int) (a:G') (o:Int) (c:C') (b:O') (g:Rows) (d:D') (f:Int):Bool:=let p:=IntKind.wrap .i64 (c.Levels-b.Drop);let q:Bool:=(bif (decide (a.Layer >= o)) then true else (decide (a.Res > p)));bif q then true else bif (inR e (List.length g)) then let r:=List.getD g (Int.toNat e) [];let i:=F'.of r;let s:=!((b.Window.X0==0)&&((b.Window.Y0==0)&&((b.Window.X1==0)&&((b.Window.Y1==0)&&true))));bif s then let t:=C_S i b.Window;bif (inR a.Comp (List.length d.Components)) then let u:=List.getD d.Components (Int.toNat a.Comp) [];let j:=H'.of u;let v:=D_j t j.DX j.DY;let w:=D_j v f f;let y:=H_z d e a.Comp;let z:=IntKind.wrap .i64 (c.Levels-b.Drop);let A:=V_f y c.Levels z w c.Kernel;let B:=f_O d c e a;bif (G_0 B b A) then true else false else false else bif (inR a.Comp (List.length d.Components)) then let D:=List.getD d.Components (Int.toNat a.Comp) [];let m:=H'.of D;let E:=D_j i m.DX m.DY;let F:=D_j E f f;let H:=H_z d e a.Comp;let I:=IntKind.wrap .i64 (c.Levels-b.Drop);let J:=V_f H c.Levels I F c.Kernel;let K:=f_O d c e a;bif (G_0 K b J) then true else false else false else false
def B_v (a b:List V):Bool:=decide ((U'.of a).From<(U'.of b).From)
def A_W (o:Rows) (w:List V):Rows:=bif decide (0<o.length)&&decide ((U'.of w).From<=V.toInt (List.getD (List.getD o (o.length-1) []) 1 V.undef)) then
    o.set (o.length-1) (setCells (List.getD o (o.length-1) []) 1 [V.int .i64 (bif decide ((U'.of w).To > V.toInt (List.getD (List.getD o (o.length-1) []) 1 V.undef)) then (U'.of w).To else V.toInt (List.getD (List.getD o (o.length-1) []) 1 V.undef))])
  else o++[U'.row (U'.of w)]
def P_Q (z:Rows):Rows:=z.foldl A_W []
def m_Y (h:D') (p:C') (v:O') (e:V'):Bool:=decide (e.Span.From<e.Span.To)&&m_m e.Tile e.ID (T_s h p v).1 (T_s h p v).2.1 (T_s h p v).2.2.1 (T_s h p v).2.2.2.1 (T_s h p v).2.2.2.2.1 (T_s h p v).2.2.2.2.2
def T_Q (h:D') (p:C') (l:Rows) (v:O'):Rows:=(l.filter fun w=>m_Y h p v (V'.of w)).map fun w=>U'.row (V'.of w).Span
def f_P (h:D') (p:C') (l:Rows) (v:O'):Rows × Int:=bif (O_Q h p v).2 != 0 then ([],(O_Q h p v).2) else bif (Q_t h p l).2 != 0 then ([],(Q_t h p l).2) else (P_Q (N_b B_v (T_Q h p l v)),0)
def K_M (h:D') (p:C') (l:Rows) (v:O'):Bool:=Nat.ble l.length 600&&l.all fun w=>decide ((V'.of w).Span.From<9223372036854775808)
noncomputable def g_s (b:D') (c:C') (a:O'):D' × Int:=let d:=V_2 b c;bif (d != 0) then ((D'.mk (F'.mk 0 0 0 0) 0 0 []),d) else let p:=decide (a.Layers<0);let q:=decide (a.Layers > 16);let r:Bool:=(bif p then true else q);let s:=decide (a.Drop<0);let t:Bool:=(bif r then true else s);let u:=decide (a.Drop > c.Levels);let v:Bool:=(bif t then true else u);bif v then ((D'.mk (F'.mk 0 0 0 0) 0 0 []),2) else let w:=!((a.Window.X0==0)&&((a.Window.Y0==0)&&((a.Window.X1==0)&&((a.Window.Y1==0)&&true))));bif w then let e:=O_K b.Area a.Window;let y:=M_4 a.Window;bif ((!y)==false) then let z:=O_b e;bif z then ((D'.mk (F'.mk 0 0 0 0) 0 0 []),2) else let f:=IntKind.wrap .u64 a.Drop;bif (decide (0<=f)) then let g:=IntKind.wrap .i64 (1*2 ^ (min (Int.toNat f) 64));let i:=M_u e g g;bif (roomOK ((0:Nat)+(List.length b.Components)) 32) then let A:=V_0 (D'.mk i 4096 4096 ([]++b.Components));bif (A != 0) then ((D'.mk (F'.mk 0 0 0 0) 0 0 []),2) else ((D'.mk i 4096 4096 ([]++b.Components)),0) else default else default else ((D'.mk (F'.mk 0 0 0 0) 0 0 []),2) else let j:=IntKind.wrap .u64 a.Drop;bif (decide (0<=j)) then let m:=IntKind.wrap .i64 (1*2 ^ (min (Int.toNat j) 64));let o:=M_u b.Area m m;bif (roomOK ((0:Nat)+(List.length b.Components)) 32) then let B:=V_0 (D'.mk o 4096 4096 ([]++b.Components));bif (B != 0) then ((D'.mk (F'.mk 0 0 0 0) 0 0 []),2) else ((D'.mk o 4096 4096 ([]++b.Components)),0) else default else default
noncomputable def R_j (b:D') (c:C') (a:O'):Bool:=let j:=V_2 b c;bif (j != 0) then true else let m:=decide (a.Layers<0);let o:=decide (a.Layers > 16);let p:Bool:=(bif m then true else o);let q:=decide (a.Drop<0);let r:Bool:=(bif p then true else q);let s:=decide (a.Drop > c.Levels);let t:Bool:=(bif r then true else s);bif t then true else let u:=!((a.Window.X0==0)&&((a.Window.Y0==0)&&((a.Window.X1==0)&&((a.Window.Y1==0)&&true))));bif u then let d:=O_K b.Area a.Window;let v:=M_4 a.Window;bif ((!v)==false) then let w:=O_b d;bif w then true else let e:=IntKind.wrap .u64 a.Drop;bif (decide (0<=e)) then let f:=IntKind.wrap .i64 (1*2 ^ (min (Int.toNat e) 64));let y:=M_u d f f;bif (roomOK ((0:Nat)+(List.length b.Components)) 32) then let z:=V_0 (D'.mk y 4096 4096 ([]++b.Components));bif (z != 0) then true else true else false else false else true else let g:=IntKind.wrap .u64 a.Drop;bif (decide (0<=g)) then let i:=IntKind.wrap .i64 (1*2 ^ (min (Int.toNat g) 64));let A:=M_u b.Area i i;bif (roomOK ((0:Nat)+(List.length b.Components)) 32) then let B:=V_0 (D'.mk A 4096 4096 ([]++b.Components));bif (B != 0) then true else true else false else false
noncomputable def j_G (a:D') (d:C') (b:Int):Int:=let c:=V_2 a d;bif (c != 0) then c else let e:=decide (b<0);bif (e==false) then let f:=P_M a;let g:=(((List.length f):Nat):Int);bif (decide (b >= g)) then 14 else 0 else 14
noncomputable def V_g (a b:Y'):Bool:=bif (a.e0 != b.e0) then (decide (a.e0<b.e0)) else bif (a.e1 != b.e1) then (decide (a.e1<b.e1)) else bif (a.e2 != b.e2) then (decide (a.e2<b.e2)) else bif (a.e3 != b.e3) then (decide (a.e3<b.e3)) else bif (a.e4 != b.e4) then (decide (a.e4<b.e4)) else bif (a.e5 != b.e5) then (decide (a.e5<b.e5)) else false
def F_m (a b:List V):Bool:=V_g (Z'.of a).N (Z'.of b).N
def V_h (w:List V):List V:=Z'.row (Z'.of w)
def F_x (a:Rows):Rows->Rows
  | []=>a
  | y::b=>(a.takeWhile fun x=>F_m x y).map V_h++V_h y::F_x (a.dropWhile fun x=>F_m x y) b
def m_n (a b:Rows):Rows:=F_x a b
def O_S (a b:Rows):Bool:=Nat.ble a.length 549755813888&&Nat.ble b.length 549755813888
def H_a:Nat->Rows->Rows
  | 0,l=>l
  | n+1,l=>bif Nat.blt l.length 2 then l else m_n (H_a n (l.take (l.length / 2))) (H_a n (l.drop (l.length / 2)))
def A_h (l:Rows):Rows:=H_a l.length l
def B_K (l:Rows):Bool:=Nat.ble l.length 549755813888
noncomputable def f_Q (a:D') (c b:Int):F':=let d:=P_M a;let e:=decide (c<0);bif (e==false) then let f:=(((List.length d):Nat):Int);let g:=decide (b<0);let i:Bool:=(bif (decide (c >= f)) then true else g);bif (i==false) then let j:=(((List.length a.Components):Nat):Int);bif (decide (b >= j)) then (F'.mk 0 0 0 0) else bif (inR c (List.length d)) then let m:=List.getD d (Int.toNat c) [];let o:=F'.of m;bif (inR b (List.length a.Components)) then let p:=List.getD a.Components (Int.toNat b) [];let q:=V.toInt (List.getD p 2 V.undef);bif (inR b (List.length a.Components)) then let r:=List.getD a.Components (Int.toNat b) [];let s:=V.toInt (List.getD r 3 V.undef);let t:=M_u o q s;t else default else default else default else (F'.mk 0 0 0 0) else (F'.mk 0 0 0 0)
noncomputable def h_B (a:D') (c b:Int):Bool:=let d:=P_M a;let e:=decide (c<0);bif (e==false) then let f:=(((List.length d):Nat):Int);let g:=decide (b<0);let i:Bool:=(bif (decide (c >= f)) then true else g);bif (i==false) then let j:=(((List.length a.Components):Nat):Int);bif (decide (b >= j)) then true else bif (inR c (List.length d)) then bif (inR b (List.length a.Components)) then bif (inR b (List.length a.Components)) then true else false else false else false else true else true
noncomputable def V_4 (a:F') (b c:Int):Int × Int:=let i:=M_4 a;bif ((!i)==false) then let j:=O_b a;let m:=decide (b<0);let o:Bool:=(bif j then true else m);let p:=decide (b > 12);let q:Bool:=(bif o then true else p);let r:=decide (c<0);let s:Bool:=(bif q then true else r);let t:=decide (c > 12);let u:Bool:=(bif s then true else t);bif u then (0,0) else bif (decide (0<=(IntKind.wrap .u64 b))) then let d:=IntKind.wrap .i64 (1*2 ^ (min (Int.toNat (IntKind.wrap .u64 b)) 64));bif (decide (0<=(IntKind.wrap .u64 c))) then let e:=IntKind.wrap .i64 (1*2 ^ (min (Int.toNat (IntKind.wrap .u64 c)) 64));let v:=K_b a.X1 d;let w:=M_5 a.X0 d;let f:=IntKind.wrap .i64 (v-w);let y:=K_b a.Y1 e;let z:=M_5 a.Y0 e;let g:=IntKind.wrap .i64 (y-z);let A:=IntKind.wrap .i64 (f*g);let B:=decide (A > 65536);bif B then (0,0) else (f,g) else default else default else (0,0)
noncomputable def h_C (a:F') (b c:Int):Bool:=let f:=M_4 a;bif ((!f)==false) then let g:=O_b a;let i:=decide (b<0);let j:Bool:=(bif g then true else i);let m:=decide (b > 12);let o:Bool:=(bif j then true else m);let p:=decide (c<0);let q:Bool:=(bif o then true else p);let r:=decide (c > 12);let s:Bool:=(bif q then true else r);bif s then true else bif (decide (0<=(IntKind.wrap .u64 b))) then let d:=IntKind.wrap .i64 (1*2 ^ (min (Int.toNat (IntKind.wrap .u64 b)) 64));bif (decide (0<=(IntKind.wrap .u64 c))) then let e:=IntKind.wrap .i64 (1*2 ^ (min (Int.toNat (IntKind.wrap .u64 c)) 64));let t:=K_b a.X1 d;let u:=M_5 a.X0 d;let v:=IntKind.wrap .i64 (t-u);let w:=K_b a.Y1 e;let y:=M_5 a.Y0 e;let z:=IntKind.wrap .i64 (w-y);let A:=IntKind.wrap .i64 (v*z);let B:=decide (A > 65536);bif B then true else true else false else false else true
noncomputable def j_H (f:F') (a:C') (b:Int):F' × Int × Int:=let c:=P_N f a.Levels b;let d:=Q_q a b;let e:=V_4 c d.X d.Y;(c,e.1,e.2)
noncomputable def H_e (d:D') (a:C') (e f b:Int):F' × Int × Int:=let g:=h_t d a e f;let i:=decide (b<0);let j:Bool:=(bif (!g) then true else i);let m:=decide (b > a.Levels);let o:Bool:=(bif j then true else m);bif o then ((F'.mk 0 0 0 0),0,0) else let p:=f_Q d e f;let c:=j_H p a b;(c.1,c.2.1,c.2.2)
noncomputable def f_R (c:F') (d e b:Int):Int × Int × Bool:=let a:=V_4 c d e;let f:=decide (b<0);let g:=IntKind.wrap .i64 (a.1*a.2);let i:Bool:=(bif f then true else (decide (b >= g)));bif i then (0,0,false) else bif (decide (0<=(IntKind.wrap .u64 d))) then let j:=IntKind.wrap .i64 (1*2 ^ (min (Int.toNat (IntKind.wrap .u64 d)) 64));let m:=M_5 c.X0 j;bif (a.1 != 0) then let o:=IntKind.wrap .i64 (m+(Int.tmod b a.1));bif (decide (0<=(IntKind.wrap .u64 e))) then let p:=IntKind.wrap .i64 (1*2 ^ (min (Int.toNat (IntKind.wrap .u64 e)) 64));let q:=M_5 c.Y0 p;bif (a.1 != 0) then let r:=IntKind.wrap .i64 (Int.tdiv b a.1);let s:=IntKind.wrap .i64 (q+r);(o,s,true) else default else default else default else default
noncomputable def c_A (e:F') (b c d:Int):Bool:=let a:=V_4 e b c;let f:=decide (d<0);let g:=IntKind.wrap .i64 (a.1*a.2);let i:Bool:=(bif f then true else (decide (d >= g)));bif i then true else bif (decide (0<=(IntKind.wrap .u64 b))) then bif (a.1 != 0) then bif (decide (0<=(IntKind.wrap .u64 c))) then bif (a.1 != 0) then true else false else false else false else false
noncomputable def f_S (a b c d:Int):F':=bif (decide (0<=(IntKind.wrap .u64 c))) then let e:=IntKind.wrap .i64 (1*2 ^ (min (Int.toNat (IntKind.wrap .u64 c)) 64));bif (decide (0<=(IntKind.wrap .u64 d))) then let f:=IntKind.wrap .i64 (1*2 ^ (min (Int.toNat (IntKind.wrap .u64 d)) 64));let g:=IntKind.wrap .i64 (a*e);let i:=IntKind.wrap .i64 (b*f);let j:=IntKind.wrap .i64 (a+1);let m:=IntKind.wrap .i64 (j*e);let o:=IntKind.wrap .i64 (b+1);let p:=IntKind.wrap .i64 (o*f);(F'.mk g i m p) else default else default
noncomputable def h_D (c d a b:Int):Bool:=bif (decide (0<=(IntKind.wrap .u64 a))) then bif (decide (0<=(IntKind.wrap .u64 b))) then true else false else false
noncomputable def V_5 (b:F') (c d e:Int):F' × Bool:=let a:=f_R b c d e;bif (!a.2.2) then ((F'.mk 0 0 0 0),false) else let f:=f_S a.1 a.2.1 c d;let g:=O_K b f;(g,true)
def m_o (h:D') (p:C') (r:F') (comp res k:Int):X' :=
  ⟨IntKind.wrap .i64 (IntKind.wrap .i64 ((V_5 r (Q_q p res).X (Q_q p res).Y k).1.X0*2 ^ (p.Levels-res).toNat)*V.toInt (List.getD (List.getD h.Components comp.toNat []) 2 V.undef)),
   IntKind.wrap .i64 (IntKind.wrap .i64 ((V_5 r (Q_q p res).X (Q_q p res).Y k).1.Y0*2 ^ (p.Levels-res).toNat)*V.toInt (List.getD (List.getD h.Components comp.toNat []) 3 V.undef))⟩
def O_T (h:D') (p:C') (r:F') (comp res k:Int):Bool:=inR comp h.Components.length&&decide (0<=res)&&decide (res<=p.Levels)&&decide (p.Levels<=5)
noncomputable def q_N (c:Int) (a:G') (b:X'):Y':=bif (c==1) then (Y'.mk a.Layer a.Res a.Comp a.Precinct 0 0) else bif (c==2) then (Y'.mk a.Res a.Layer a.Comp a.Precinct 0 0) else bif (c==3) then (Y'.mk a.Res b.Y b.X a.Comp a.Precinct a.Layer) else bif (c==4) then (Y'.mk b.Y b.X a.Comp a.Res a.Precinct a.Layer) else (Y'.mk a.Comp b.Y b.X a.Res a.Precinct a.Layer)
def h_E (h:D') (p:C') (tile comp res k layer:Int):List V:=Z'.row ⟨⟨comp,res,k,layer⟩,q_N p.Order ⟨comp,res,k,layer⟩ (m_o h p (H_e h p tile comp res).1 comp res k)⟩
def R_k (h:D') (p:C') (tile:Int):Rows:=(A_n 0 (h.Components.length:Int)).flatMap fun comp=>(A_n 0 (p.Levels+1)).flatMap fun res =>
  (A_n 0 (IntKind.wrap .i64 ((H_e h p tile comp res).2.1*(H_e h p tile comp res).2.2))).flatMap fun k=>(A_n 0 p.Layers).map fun layer=>h_E h p tile comp res k layer
def O_U (h:D') (p:C') (tile:Int):Bool:=j_G h p tile==0
def P_R (h:D') (p:C') (tile:Int):Rows × Int:=bif j_G h p tile != 0 then ([],j_G h p tile) else ((A_h (R_k h p tile)).map fun w=>G'.row (G'.of w),0)
def f_T (h:D') (p:C'):Rows:=(A_n 0 ((B_f h).length:Int)).map fun t=>[V.data G'.sh (P_R h p t).1]
def D_m (id:G') (w:List V):Bool:=((G'.of w).Comp==id.Comp)&&(((G'.of w).Res==id.Res)&&(((G'.of w).Precinct==id.Precinct)&&(((G'.of w).Layer==id.Layer)&&true)))
def h_F (l:Rows) (id:G'):Int:=A_H (D_m id) l 0
def V_i (l:Rows) (id:G'):Bool:=Nat.ble l.length 1099511627776
def H_B (h:D') (p:C') (e:V'):Bool:=!decide (e.Tile<0)&&!decide (e.Tile >= ((B_f h).length:Int))&&!decide (e.Span.From<0)&&!decide (e.Span.From > e.Span.To)&&!decide (h_F (P_R h p e.Tile).1 e.ID<0)
def V_6 (h:D') (p:C') (l:Rows):Int:=bif l.all (fun w=>H_B h p (V'.of w)) then 0 else 1
def V_j (h:D') (p:C') (l:Rows):Bool:=Nat.ble l.length 1048576
noncomputable def j_I (b:C') (a:O'):Int:=let c:=decide (a.Layers > b.Layers);let d:Bool:=(bif (a.Layers==0) then true else c);bif d then b.Layers else a.Layers
noncomputable def m_Z (b a:Int):Rows:=let c:=b_I b;let d:=decide (a<0);let e:Bool:=(bif (c==0) then true else d);let f:Bool:=(bif e then true else (decide (a > b)));bif f then [] else bif (a==0) then [[(V.int .i64 0)]] else let g:=IntKind.wrap .i64 (3*a);let i:=IntKind.wrap .i64 (g-2);let j:=IntKind.wrap .i64 (3*a);let m:=IntKind.wrap .i64 (j-1);let o:=IntKind.wrap .i64 (3*a);[[V.int .i64 i],[V.int .i64 m],[V.int .i64 o]]
noncomputable def h_G (f d:F') (e b c g:Int):F' × Bool:=let a:=f_R f b c g;bif ((!a.2.2)==false) then let i:=M_4 d;let j:=decide (e<0);let m:Bool:=(bif (!i) then true else j);let o:=decide (e > 3);let p:Bool:=(bif m then true else o);bif p then ((F'.mk 0 0 0 0),false) else bif (e==0) then let q:=f_S a.1 a.2.1 b c;let r:=O_K d q;(r,true) else let s:Bool:=(bif (b==0) then true else (c==0));bif s then ((F'.mk 0 0 0 0),false) else let t:=IntKind.wrap .i64 (b-1);let u:=IntKind.wrap .i64 (c-1);let v:=f_S a.1 a.2.1 t u;let w:=O_K d v;(w,true) else ((F'.mk 0 0 0 0),false)
def f_U (a:F') (bx bY:Int):Int × Int × Rows:=O_f a bx bY
noncomputable def c_B (e:F') (a:C') (b f m:Int):Int × Int × Rows:=let o:=c_s f a.Levels;let c:=Q_q a b;let p:=P_N e a.Levels b;let q:=c_t e a.Levels f;let g:=h_G p q o.2.1 c.X c.Y m;bif (!g.2) then (0,0,[]) else let r:Int:=(bif (decide (1<b)) then 1 else b);let i:=IntKind.wrap .i64 (c.X-r);let s:Int:=(bif (decide (i<a.BlockX)) then i else a.BlockX);let t:Int:=(bif (decide (1<b)) then 1 else b);let j:=IntKind.wrap .i64 (c.Y-t);let u:Int:=(bif (decide (j<a.BlockY)) then j else a.BlockY);let d:=f_U g.1 s u;(d.1,d.2.1,d.2.2)
def j_J (r:F') (p:C') (comp res k:Int):Rows:=(O_M p.Levels res).flatMap fun w=>H_A comp res (V.toInt (List.getD w 0 V.undef)) k (c_B r p res (V.toInt (List.getD w 0 V.undef)) k).2.2
noncomputable def f_V (b:D') (c:C') (d:Int) (a:G'):Rows:=let e:=H_e b c d a.Comp a.Res;let f:=decide (a.Precinct<0);let g:=IntKind.wrap .i64 (e.2.1*e.2.2);let i:=decide (a.Precinct >= g);let j:Bool:=(bif f then true else i);bif j then [] else let m:=f_Q b d a.Comp;let o:=j_J m c a.Comp a.Res a.Precinct;o
noncomputable def m_0 (a:Int):Bool:=let b:Bool:=(bif (a==1) then true else (a==2));let c:Bool:=(bif b then true else (a==3));c
noncomputable def r_Y (a:Int):Int:=bif (a==1) then bif (a==1) then 2 else bif (a==3) then 4 else 0 else bif (a==2) then 2 else bif (a==3) then 4 else 0
def j_K (a:F') (l res:Int) (win:F') (k:Int):Rows:=V_f a l res win k
noncomputable def j_L (c:D') (b:C') (f g:Int) (a:O'):Rows:=let i:=f_Q c f g;let j:=IntKind.wrap .u64 a.Drop;bif (decide (0<=j)) then let d:=IntKind.wrap .i64 (1*2 ^ (min (Int.toNat j) 64));bif (inR g (List.length c.Components)) then let p:=List.getD c.Components (Int.toNat g) [];let e:=H'.of p;let m:=P_M c;bif (inR f (List.length m)) then let q:=List.getD m (Int.toNat f) [];let o:=F'.of q;let r:=!((a.Window.X0==0)&&((a.Window.Y0==0)&&((a.Window.X1==0)&&((a.Window.Y1==0)&&true))));bif r then let s:=O_K o a.Window;let t:=IntKind.wrap .i64 (b.Levels-a.Drop);let u:=M_u s e.DX e.DY;let v:=M_u u d d;let w:=j_K i b.Levels t v b.Kernel;w else let y:=IntKind.wrap .i64 (b.Levels-a.Drop);let z:=M_u o e.DX e.DY;let A:=M_u z d d;let B:=j_K i b.Levels y A b.Kernel;B else default else default else default
noncomputable def N_f (b:D') (i:C') (c d:Int) (a:O'):Bool:=let e:=IntKind.wrap .u64 a.Drop;bif (decide (0<=e)) then bif (inR d (List.length b.Components)) then let f:=P_M b;bif (inR c (List.length f)) then let g:=!((a.Window.X0==0)&&((a.Window.Y0==0)&&((a.Window.X1==0)&&((a.Window.Y1==0)&&true))));bif g then true else true else false else false else false
noncomputable def b_K (d:D') (c:C') (e:Int) (b:N') (a:O'):Bool:=let g:=IntKind.wrap .i64 (c.Levels-a.Drop);bif (decide (b.Res > g)) then false else let i:=(a.Window.X0==0)&&((a.Window.Y0==0)&&((a.Window.X1==0)&&((a.Window.Y1==0)&&true)));bif i then true else bif (N_f d c e b.Comp a) then let f:=j_L d c e b.Comp a;bif (inR b.Band (List.length f)) then let j:=List.getD f (Int.toNat b.Band) [];let m:=F'.of j;let o:=O_K b.Rect m;let p:=O_b o;(!p) else default else default
noncomputable def O_V (d:D') (c:C') (e:Int) (b:N') (a:O'):Bool:=let f:=IntKind.wrap .i64 (c.Levels-a.Drop);bif (decide (b.Res > f)) then true else let g:=(a.Window.X0==0)&&((a.Window.Y0==0)&&((a.Window.X1==0)&&((a.Window.Y1==0)&&true)));bif g then true else bif (N_f d c e b.Comp a) then let i:=j_L d c e b.Comp a;bif (inR b.Band (List.length i)) then true else false else false
def j_M (h:D') (p:C') (tile:Int) (id:G') (v:O'):Bool:=bif decide (id.Layer >= j_I p v) then false else (f_V h p tile id).any fun w=>b_K h p tile (N'.of w) v
def O_W (h:D') (p:C') (tile:Int) (id:G') (v:O'):Bool:=Nat.ble (f_V h p tile id).length 1099511627776&&(f_V h p tile id).all fun w=>O_V h p tile (N'.of w) v
def H_C (h:D') (p:C') (l:Rows) (v:O'):Rows:=(l.filter fun w=>decide ((V'.of w).Span.From<(V'.of w).Span.To)&&j_M h p (V'.of w).Tile (V'.of w).ID v).map fun w=>U'.row (V'.of w).Span
def V_k (h:D') (p:C') (l:Rows) (v:O'):Rows × Int:=bif (g_s h p v).2 != 0 then ([],(g_s h p v).2) else bif V_6 h p l != 0 then ([],V_6 h p l) else (P_Q (N_b B_v (H_C h p l v)),0)
def O_X (h:D') (p:C') (l:Rows) (v:O'):Bool:=Nat.ble l.length 600
def H_D (a b:List V):Bool:=((U'.of a).From==(U'.of b).From)&&(((U'.of a).To==(U'.of b).To)&&true)
def h_H (a b:Rows):Bool:=((a.length:Int)==(b.length:Int))&&(A_n 0 (a.length:Int)).all fun i=>H_D (List.getD a i.toNat []) (List.getD b i.toNat [])
def O_Y (a b:Rows):Bool:=Nat.ble a.length 1048576
noncomputable def m_1 (b:D') (c:C') (a:A_d):Bool:=let f:=h_u b c;bif ((!f)==false) then let g:=(((List.length a.Entries):Nat):Int);let i:=decide (g > 600);bif i then bif F_i then let j:=g_q;j else default else bif (K_M b c a.Entries a.View) then let d:=f_P b c a.Entries a.View;bif (O_X b c a.Entries a.View) then let e:=V_k b c a.Entries a.View;bif ((d.2==e.2)==true) then bif (O_Y d.1 e.1) then let m:=h_H d.1 e.1;bif (m==true) then bif F_i then let o:=g_q;o else default else false else default else false else default else default else bif F_i then let p:=g_q;p else default
noncomputable def R_l (b:D') (c:C') (a:A_d):Bool:=let f:=h_u b c;bif ((!f)==false) then let g:=(((List.length a.Entries):Nat):Int);let i:=decide (g > 600);bif i then bif F_i then true else false else bif (K_M b c a.Entries a.View) then let d:=f_P b c a.Entries a.View;bif (O_X b c a.Entries a.View) then let e:=V_k b c a.Entries a.View;bif ((d.2==e.2)==true) then bif (O_Y d.1 e.1) then let j:=h_H d.1 e.1;bif (j==true) then bif F_i then true else false else true else false else true else false else false else bif F_i then true else false
theorem m_2 {n:Int} (h:0<=n):Int.tdiv n 3=n / 3:=Int.tdiv_eq_ediv_of_nonneg h
theorem A_G (l:Int):V_e l=if 0<=l/\l<=5 then 3*l+1 else 0:=by
  unfold V_e M_v
  by_cases h:0<=l/\l<=5
  · have h1:decide (l >= 0)=true:=by simp;omega
    have h2:decide (l<=5)=true:=by simp;omega
    rw [if_pos h]
    simp only [h1,h2,Bool.not_true,cond_false,cond_true,Bool.not_false]
    rw [w64 (n:=3*l) (by omega) (by omega),w64 (by omega) (by omega)]
  · rw [if_neg h]
    by_cases h0:l >= 0
    · have h1:decide (l >= 0)=true:=by simp;omega
      have h2:decide (l<=5)=false:=by simp;omega
      simp only [h1,h2,Bool.not_true,cond_false,cond_true,Bool.not_false]
    · have h1:decide (l >= 0)=false:=by simp;omega
      simp only [h1,Bool.not_true,cond_false,cond_true,Bool.not_false]
theorem F_y (l:Int):b_I l=V_e l:=by
  rw [A_G]
  unfold b_I
  by_cases h0:l<0
  · have h1:decide (l<0)=true:=by simpa using h0
    rw [if_neg (by omega)]
    simp [h1]
  · have h1:decide (l<0)=false:=by simpa using h0
    by_cases h2:l > 5
    · have h3:decide (l > 5)=true:=by simpa using h2
      rw [if_neg (by omega)]
      simp [h1,h3]
    · have h3:decide (l > 5)=false:=by simpa using h2
      rw [if_pos (by omega)]
      simp only [h1,h3,cond_false]
      rw [w64 (n:=3*l) (by omega) (by omega),w64 (by omega) (by omega)]
theorem F_z (i l:Int):c_s i l=O_c i l:=by
  unfold c_s O_c
  rw [F_y]
theorem C_a (i l:Int):O_c i l=if 0<=i/\i<V_e l then (if i=0 then (l,0,true) else (l-(i+2) / 3+1,i-3*((i+2) / 3)+3,true)) else (0,0,false):=by
  unfold O_c
  by_cases h0:i<0
  · rw [if_neg (by omega)];simp [h0]
  · by_cases hc:i >= V_e l
    · rw [if_neg (by omega)];simp [h0,hc]
    · rw [if_pos (by omega)]
      by_cases hz:i=0
      · subst hz
        have hc2:¬ (V_e l<=0):=by omega
        simp [hc2]
      · rw [if_neg hz]
        rw [A_G] at hc
        have h5:0<=l/\l<=5:=by
          apply Decidable.byContradiction
          intro hn
          rw [if_neg hn] at hc;omega
        rw [if_pos h5] at hc
        have hc':¬ (i >= V_e l):=by rw [A_G,if_pos h5];omega
        have e1:(i==0)=false:=by simp [hz]
        simp only [h0,hc',decide_false,e1,cond_false,cond_true,beq_self_eq_true]
        have w1:IntKind.wrap .i64 (i+2)=i+2:=w64 (by omega) (by omega)
        rw [w1,m_2 (by omega)]
        have w2:IntKind.wrap .i64 ((i+2) / 3)=(i+2) / 3:=w64 (by omega) (by omega)
        rw [w2]
        rw [w64 (n:=l-(i+2) / 3) (by omega) (by omega),w64 (n:=l-(i+2) / 3+1) (by omega) (by omega),w64 (n:=3*((i+2) / 3)) (by omega) (by omega),w64 (n:=i-3*((i+2) / 3)) (by omega) (by omega),w64 (n:=i-3*((i+2) / 3)+3) (by omega) (by omega)]
theorem c_C {i l:Int} (h:(O_c i l).2.2=true):0<=(O_c i l).2.1/\(O_c i l).2.1<4:=by
  rw [C_a] at h ⊢
  split at h
  · rename_i hh
    rw [if_pos hh]
    split
    · exact ⟨Int.le_refl 0,by show (0:Int)<4;decide⟩
    · have:=hh
      exact ⟨by simp only [];omega,by simp only [];omega⟩
  · simp at h
theorem r_Z (a0 a1:Int):h_g a0 a1=true:=by
  repeat' (first | rfl | (refine A_V ?_ ?_ <;> intro _))
  all_goals (simp_all [inR] <;> omega)
theorem r_0 (a0 a1:Int):h_h a0 a1=true:=by
  repeat' (first | rfl | (refine A_V ?_ ?_ <;> intro _))
  all_goals (simp_all [inR] <;> omega)
theorem r_1 (a0:C') (a1:Int):h_l a0 a1=true:=by
  repeat' (first | rfl | (refine A_V ?_ ?_ <;> intro _))
  all_goals (simp_all [inR] <;> omega)
theorem r_2 (a0:F') (a1 a2:Int):h_r a0 a1 a2=true:=by
  repeat' (first | rfl | (refine A_V ?_ ?_ <;> intro _))
  rename_i h1 h2 h3 h4
  rw [F_z] at h1 h4
  have h5:(O_c a2 a1).2.2=true:=by simpa using h1
  obtain ⟨h6,h7⟩:=c_C h5
  simp [inR] at h4
  omega
theorem r_3 (a0 a1:Int):h_i a0 a1=true:=by
  repeat' (first | rfl | (refine A_V ?_ ?_ <;> intro _))
  all_goals (simp_all [inR] <;> omega)
theorem r_4 (a0 a1:Int):h_j a0 a1=true:=by
  repeat' (first | rfl | (refine A_V ?_ ?_ <;> intro _))
  all_goals (simp_all [inR] <;> omega)
theorem r_5 (a0:F') (a1 a2:Int):h_m a0 a1 a2=true:=by
  repeat' (first | rfl | (refine A_V ?_ ?_ <;> intro _))
  all_goals (simp_all [inR] <;> omega)
theorem r_6 (a0:C') (a1:Int):h_p a0 a1=true:=by
  repeat' (first | rfl | (refine A_V ?_ ?_ <;> intro _))
  all_goals (simp_all [inR] <;> omega)
theorem r_7 (a0:F') (a1 a2:Int):h_n a0 a1 a2=true:=by
  repeat' (first | rfl | (refine A_V ?_ ?_ <;> intro _))
  all_goals (simp_all [inR] <;> omega)
theorem r_8 (a0:F') (a1 a2:Int):h_o a0 a1 a2=true:=by
  repeat' (first | rfl | (refine A_V ?_ ?_ <;> intro _))
  rename_i h1 h2 h3 h4
  have h5:(O_c a2 a1).2.2=true:=by simpa using h1
  obtain ⟨h6,h7⟩:=c_C h5
  simp [inR] at h4
  omega
theorem r_9 (a0:D') (a1 a2:Int):h_v a0 a1 a2=true:=by
  repeat' (first | rfl | (refine A_V ?_ ?_ <;> intro _))
  all_goals (simp_all [inR] <;> omega)
theorem s_a (a0 a1 a2:Int):h_w a0 a1 a2=true:=by
  repeat' (first | rfl | (refine A_V ?_ ?_ <;> intro _))
  all_goals (simp_all [inR] <;> omega)
theorem s_b (a0:F') (a1 a2 a3:Int):c_w a0 a1 a2 a3=true:=by
  by_cases hz:(A_J a0 a1 a2 12).2.2.1=0
  · unfold c_w
    simp only [hz]
    have e:IntKind.wrap .i64 (0*(A_J a0 a1 a2 12).2.2.2)=0:=by rw [Int.zero_mul];exact w64 (by decide) (by decide)
    rw [e]
    by_cases h:a3<0
    · simp [h]
    · have h2:a3 >= 0:=by omega
      simp [h,h2]
  · repeat' (first | rfl | (refine A_V ?_ ?_ <;> intro _))
    all_goals simp_all
theorem s_c (a0 a1 a2 a3:Int):h_x a0 a1 a2 a3=true:=by
  repeat' (first | rfl | (refine A_V ?_ ?_ <;> intro _))
  all_goals (simp_all [inR] <;> omega)
theorem s_d (a0:D') (a1 a2:Int):h_B a0 a1 a2=true:=by
  repeat' (first | rfl | (refine A_V ?_ ?_ <;> intro _))
  all_goals (simp_all [inR] <;> omega)
theorem s_e (a0:F') (a1 a2:Int):h_C a0 a1 a2=true:=by
  repeat' (first | rfl | (refine A_V ?_ ?_ <;> intro _))
  all_goals (simp_all [inR] <;> omega)
theorem s_f (a0:F') (a1 a2 a3:Int):c_A a0 a1 a2 a3=true:=by
  by_cases hz:(V_4 a0 a1 a2).1=0
  · unfold c_A
    simp only [hz]
    have e:IntKind.wrap .i64 (0*(V_4 a0 a1 a2).2)=0:=by rw [Int.zero_mul];exact w64 (by decide) (by decide)
    rw [e]
    by_cases h:a3<0
    · simp [h]
    · have h2:a3 >= 0:=by omega
      simp [h,h2]
  · repeat' (first | rfl | (refine A_V ?_ ?_ <;> intro _))
    all_goals simp_all
theorem s_g (a0 a1 a2 a3:Int):h_D a0 a1 a2 a3=true:=by
  repeat' (first | rfl | (refine A_V ?_ ?_ <;> intro _))
  all_goals (simp_all [inR] <;> omega)
noncomputable def m_3 (l:List At):Bool:=match l with
  | .i _::.i _::.i _::.i _::[]=>true
  | _=>false
noncomputable def s_h (l:List At):V:=match l with
  | .i a::.i b::.i c::.i d::[]=>(V.bool (M_4 (F'.mk a b c d)))
  | _=>.undef
abbrev j_N:List T:=[.agg F'.ts]
noncomputable def c_D:CallF R:=callHook j_N m_3 s_h
abbrev T_R:Prop:=Good1 (R:=V) Tryz.prog 23 c_D
noncomputable def m_4 (l:List At):Bool:=match l with
  | .i _::.i _::.i _::.i _::[]=>true
  | _=>false
noncomputable def s_i (l:List At):V:=match l with
  | .i a::.i b::.i c::.i d::[]=>(V.bool (O_b (F'.mk a b c d)))
  | _=>.undef
abbrev j_O:List T:=[.agg F'.ts]
noncomputable def g_t:CallF R:=callHook j_O m_4 s_i
abbrev V_7:Prop:=Good1 (R:=V) Tryz.prog 24 g_t
noncomputable def m_5 (l:List At):Bool:=match l with
  | .i _::.i _::.i _::[]=>true
  | _=>false
noncomputable def s_j (l:List At):V:=match l with
  | .i a::.i b::.i c::[]=>(V.bool (P_L a b c))
  | _=>.undef
abbrev j_P:List T:=[.int .i64,.int .i64,.int .i64]
noncomputable def s_k:CallF R:=callHook j_P m_5 s_j
abbrev m_p:Prop:=Good1 (R:=V) Tryz.prog 25 s_k
noncomputable def m_6 (l:List At):Bool:=match l with
  | .i _::.i _::[]=>true
  | _=>false
noncomputable def s_l (l:List At):V:=match l with
  | .i a::.i b::[]=>(V.int .i64 (K_b a b))
  | _=>.undef
abbrev j_Q:List T:=[.int .i64,.int .i64]
noncomputable def m_q:CallF R:=callHook j_Q m_6 s_l
abbrev h_I:Prop:=Good1 (R:=V) Tryz.prog 58 m_q
noncomputable def m_7 (l:List At):Bool:=match l with
  | .i _::.i _::.i _::.i _::.i _::.i _::[]=>true
  | _=>false
noncomputable def s_m (l:List At):V:=match l with
  | .i a::.i b::.i c::.i d::.i e::.i f::[]=>(F'.v (M_u (F'.mk a b c d) e f))
  | _=>.undef
abbrev j_R:List T:=[.agg F'.ts,.int .i64,.int .i64]
noncomputable def h_J:CallF R:=callHook j_R m_7 s_m
abbrev V_8:Prop:=Good1 (R:=V) Tryz.prog 26 h_J
noncomputable def m_8 (l:List At):Bool:=match l with
  | .i _::.i _::[]=>true
  | _=>false
noncomputable def s_n (l:List At):V:=match l with
  | .i a::.i b::[]=>(V.int .i64 (M_5 a b))
  | _=>.undef
abbrev j_S:List T:=[.int .i64,.int .i64]
noncomputable def m_r:CallF R:=callHook j_S m_8 s_n
abbrev h_K:Prop:=Good1 (R:=V) Tryz.prog 59 m_r
noncomputable def m_9 (l:List At):Bool:=match l with
  | .i _::.i _::.i _::.i _::.i _::.i _::.r _::[]=>true
  | _=>false
noncomputable def s_o (l:List At):V:=match l with
  | .i a::.i b::.i c::.i d::.i e::.i f::.r g::[]=>(V.int .i64 (q_J (D'.mk (F'.mk a b c d) e f g)))
  | _=>.undef
abbrev j_T:List T:=[.agg D'.ts]
noncomputable def y_H:CallF R:=callHook j_T m_9 s_o
abbrev q_O:Prop:=Good1 (R:=V) Tryz.prog 27 y_H
noncomputable def n_a (l:List At):Bool:=match l with
  | .i _::.i _::.i _::.i _::[]=>true
  | _=>false
noncomputable def s_p (l:List At):V:=match l with
  | .i a::.i b::.i c::.i d::[]=>(V.int .i64 (q_K (F'.mk a b c d)))
  | _=>.undef
abbrev j_U:List T:=[.agg F'.ts]
noncomputable def y_I:CallF R:=callHook j_U n_a s_p
abbrev q_P:Prop:=Good1 (R:=V) Tryz.prog 28 y_I
noncomputable def n_b (l:List At):Bool:=match l with
  | .i _::.i _::.i _::.i _::.i _::.i _::.r _::[]=>true
  | _=>false
noncomputable def s_q (l:List At):V:=match l with
  | .i a::.i b::.i c::.i d::.i e::.i f::.r g::[]=>(V.int .i64 (V_0 (D'.mk (F'.mk a b c d) e f g)))
  | _=>.undef
abbrev j_V:List T:=[.agg D'.ts]
noncomputable def n_c:CallF R:=callHook j_V n_b s_q
abbrev g_u:Prop:=Good1 (R:=V) Tryz.prog 9 n_c
noncomputable def n_d (l:List At):Bool:=match l with
  | .i _::.i _::.i _::.i _::.i _::.i _::.i _::.i _::[]=>true
  | _=>false
noncomputable def s_r (l:List At):V:=match l with
  | .i a::.i b::.i c::.i d::.i e::.i f::.i g::.i i::[]=>(F'.v (O_K (F'.mk a b c d) (F'.mk e f g i)))
  | _=>.undef
abbrev j_W:List T:=[.agg F'.ts,.agg F'.ts]
noncomputable def h_L:CallF R:=callHook j_W n_d s_r
abbrev c_E:Prop:=Good1 (R:=V) Tryz.prog 52 h_L
noncomputable def n_e (l:List At):Bool:=match l with
  | .i _::.i _::.i _::.i _::.i _::.i _::[]=>true
  | _=>false
noncomputable def s_s (l:List At):V:=match l with
  | .i a::.i b::.i c::.i d::.i e::.i f::[]=>(V.data F'.sh (h_k (F'.mk a b c d) e f))
  | _=>.undef
abbrev j_X:List T:=[.agg F'.ts,.int .i64,.int .i64]
noncomputable def s_t:CallF R:=callHook j_X n_e s_s
abbrev m_s:Prop:=Good1 (R:=V) Tryz.prog 29 s_t
noncomputable def n_f (l:List At):Bool:=match l with
  | .i _::.i _::.i _::.i _::.i _::.i _::.r _::[]=>true
  | _=>false
noncomputable def s_u (l:List At):V:=match l with
  | .i a::.i b::.i c::.i d::.i e::.i f::.r g::[]=>(V.data F'.sh (P_M (D'.mk (F'.mk a b c d) e f g)))
  | _=>.undef
abbrev j_Y:List T:=[.agg D'.ts]
noncomputable def h_M:CallF R:=callHook j_Y n_f s_u
abbrev c_F:Prop:=Good1 (R:=V) Tryz.prog 10 h_M
noncomputable def n_g (l:List At):Bool:=match l with
  | .i _::.i _::.i _::.i _::.i _::.r _::.i _::.i _::.b _::.b _::.b _::.b _::.b _::.b _::.b _::.b _::.r _::.i _::.i _::[]=>true
  | _=>false
noncomputable def s_v (l:List At):V:=match l with
  | .i a::.i b::.i c::.i d::.i e::.r f::.i g::.i i::.b j::.b m::.b o::.b p::.b q::.b r::.b s::.b t::.r u::.i v::.i w::[]=>(V.bool (m_T (C'.mk a b c d e f g i (K'.mk j m o p q) r s t u v w)))
  | _=>.undef
abbrev j_Z:List T:=[.agg C'.ts]
noncomputable def y_J:CallF R:=callHook j_Z n_g s_v
abbrev q_Q:Prop:=Good1 (R:=V) Tryz.prog 30 y_J
noncomputable def n_h (l:List At):Bool:=match l with
  | .i _::.i _::.i _::.i _::.i _::.r _::.i _::.i _::.b _::.b _::.b _::.b _::.b _::.b _::.b _::.b _::.r _::.i _::.i _::[]=>true
  | _=>false
noncomputable def s_w (l:List At):V:=match l with
  | .i a::.i b::.i c::.i d::.i e::.r f::.i g::.i i::.b j::.b m::.b o::.b p::.b q::.b r::.b s::.b t::.r u::.i v::.i w::[]=>(V.bool (r_X (C'.mk a b c d e f g i (K'.mk j m o p q) r s t u v w)))
  | _=>.undef
abbrev j_0:List T:=[.agg C'.ts]
noncomputable def y_K:CallF R:=callHook j_0 n_h s_w
abbrev n_i:Prop:=Good1 (R:=V) Tryz.prog 31 y_K
noncomputable def n_j (l:List At):Bool:=match l with
  | .i _::.i _::.i _::.i _::.i _::.r _::.i _::.i _::.b _::.b _::.b _::.b _::.b _::.b _::.b _::.b _::.r _::.i _::.i _::.i _::[]=>true
  | _=>false
noncomputable def s_x (l:List At):V:=match l with
  | .i a::.i b::.i c::.i d::.i e::.r f::.i g::.i i::.b j::.b m::.b o::.b p::.b q::.b r::.b s::.b t::.r u::.i v::.i w::.i y::[]=>(X'.v (Q_q (C'.mk a b c d e f g i (K'.mk j m o p q) r s t u v w) y))
  | _=>.undef
abbrev j_1:List T:=[.agg C'.ts,.int .i64]
noncomputable def m_t:CallF R:=callHook j_1 n_j s_x
abbrev f_W:Prop:=Good1 (R:=V) Tryz.prog 60 m_t
noncomputable def n_k (l:List At):Bool:=match l with
  | .i a::.i b::.i c::.i d::.i e::.i f::[]=>M_8 (F'.mk a b c d) e f
  | _=>false
noncomputable def s_y (l:List At):V:=match l with
  | .i a::.i b::.i c::.i d::.i e::.i f::[]=>(V.int .i64 (f_N (F'.mk a b c d) e f))
  | _=>.undef
abbrev j_2:List T:=[.agg F'.ts,.int .i64,.int .i64]
noncomputable def s_z:CallF R:=callHook j_2 n_k s_y
abbrev m_u:Prop:=Good1 (R:=V) Tryz.prog 61 s_z
noncomputable def n_l (l:List At):Bool:=match l with
  | .i _::[]=>true
  | _=>false
noncomputable def s_A (l:List At):V:=match l with
  | .i a::[]=>(V.int .i64 (b_I a))
  | _=>.undef
abbrev j_3:List T:=[.int .i64]
noncomputable def n_m:CallF R:=callHook j_3 n_l s_A
abbrev h_N:Prop:=Good1 (R:=V) Tryz.prog 99 n_m
noncomputable def n_n (l:List At):Bool:=match l with
  | .i _::.i _::.i _::.i _::.i _::.i _::[]=>true
  | _=>false
noncomputable def s_B (l:List At):V:=match l with
  | .i a::.i b::.i c::.i d::.i e::.i f::[]=>(F'.v (P_N (F'.mk a b c d) e f))
  | _=>.undef
abbrev j_4:List T:=[.agg F'.ts,.int .i64,.int .i64]
noncomputable def m_v:CallF R:=callHook j_4 n_n s_B
abbrev f_X:Prop:=Good1 (R:=V) Tryz.prog 62 m_v
noncomputable def n_o (l:List At):Bool:=match l with
  | .i a::.i b::.i c::.i d::.i e::.i f::.r g::.i i::.i j::.i m::.i o::.i p::.r q::.i r::.i s::.b t::.b u::.b v::.b w::.b y::.b z::.b A::.b B::.r D::.i E::.i F::.i H::.i I::.i J::.i K::[]=>F_v (D'.mk (F'.mk a b c d) e f g) (C'.mk i j m o p q r s (K'.mk t u v w y) z A B D E F) (F'.mk H I J K)
  | _=>false
noncomputable def s_C (l:List At):V:=match l with
  | .i a::.i b::.i c::.i d::.i e::.i f::.r g::.i i::.i j::.i m::.i o::.i p::.r q::.i r::.i s::.b t::.b u::.b v::.b w::.b y::.b z::.b A::.b B::.r D::.i E::.i F::.i H::.i I::.i J::.i K::[]=>(V.int .i64 (T_N (D'.mk (F'.mk a b c d) e f g) (C'.mk i j m o p q r s (K'.mk t u v w y) z A B D E F) (F'.mk H I J K)))
  | _=>.undef
abbrev j_5:List T:=[.agg D'.ts,.agg C'.ts,.agg F'.ts]
noncomputable def s_D:CallF R:=callHook j_5 n_o s_C
abbrev m_w:Prop:=Good1 (R:=V) Tryz.prog 32 s_D
noncomputable def n_p (l:List At):Bool:=match l with
  | .i _::.i _::[]=>true
  | _=>false
noncomputable def s_E (l:List At):V:=match l with
  | .i a::.i b::[]=>(V.tup [(V.int .i64 (c_s a b).1),(V.int .i64 (c_s a b).2.1),(V.bool (c_s a b).2.2)])
  | _=>.undef
abbrev j_6:List T:=[.int .i64,.int .i64]
noncomputable def s_F:CallF R:=callHook j_6 n_p s_E
abbrev q_R:Prop:=Good1 (R:=V) Tryz.prog 100 s_F
noncomputable def n_q (l:List At):Bool:=match l with
  | .i _::.b _::[]=>true
  | _=>false
noncomputable def s_G (l:List At):V:=match l with
  | .i a::.b b::[]=>(V.int .i64 (B_9 a b))
  | _=>.undef
abbrev j_7:List T:=[.int .i64,.bool]
noncomputable def y_L:CallF R:=callHook j_7 n_q s_G
abbrev s_H:Prop:=Good1 (R:=V) Tryz.prog 127 y_L
noncomputable def n_r (l:List At):Bool:=match l with
  | .i _::.i _::.i _::.i _::[]=>true
  | _=>false
noncomputable def s_I (l:List At):V:=match l with
  | .i a::.i b::.i c::.i d::[]=>(A_f.v (h_q (F'.mk a b c d)))
  | _=>.undef
abbrev j_8:List T:=[.agg F'.ts]
noncomputable def s_J:CallF R:=callHook j_8 n_r s_I
abbrev n_s:Prop:=Good1 (R:=V) Tryz.prog 101 s_J
noncomputable def n_t (l:List At):Bool:=match l with
  | .i _::.i _::.i _::.i _::.i _::.i _::[]=>true
  | _=>false
noncomputable def s_K (l:List At):V:=match l with
  | .i a::.i b::.i c::.i d::.i e::.i f::[]=>(F'.v (c_t (F'.mk a b c d) e f))
  | _=>.undef
abbrev j_9:List T:=[.agg F'.ts,.int .i64,.int .i64]
noncomputable def s_L:CallF R:=callHook j_9 n_t s_K
abbrev n_u:Prop:=Good1 (R:=V) Tryz.prog 63 s_L
noncomputable def n_v (l:List At):Bool:=match l with
  | .i a::.i b::.i c::.i d::.i e::.i f::.r g::.i i::.i j::.i m::.i o::.i p::.r q::.i r::.i s::.b t::.b u::.b v::.b w::.b y::.b z::.b A::.b B::.r D::.i E::.i F::.i H::.i I::.i J::.i K::[]=>O_O (D'.mk (F'.mk a b c d) e f g) (C'.mk i j m o p q r s (K'.mk t u v w y) z A B D E F) (F'.mk H I J K)
  | _=>false
noncomputable def s_M (l:List At):V:=match l with
  | .i a::.i b::.i c::.i d::.i e::.i f::.r g::.i i::.i j::.i m::.i o::.i p::.r q::.i r::.i s::.b t::.b u::.b v::.b w::.b y::.b z::.b A::.b B::.r D::.i E::.i F::.i H::.i I::.i J::.i K::[]=>(V.int .i64 (h_s (D'.mk (F'.mk a b c d) e f g) (C'.mk i j m o p q r s (K'.mk t u v w y) z A B D E F) (F'.mk H I J K)))
  | _=>.undef
abbrev k_a:List T:=[.agg D'.ts,.agg C'.ts,.agg F'.ts]
noncomputable def y_M:CallF R:=callHook k_a n_v s_M
abbrev n_w:Prop:=Good1 (R:=V) Tryz.prog 33 y_M
noncomputable def n_x (l:List At):Bool:=match l with
  | .i _::.i _::.i _::.i _::.i _::.i _::.r _::.i _::.i _::.i _::.i _::.i _::.r _::.i _::.i _::.b _::.b _::.b _::.b _::.b _::.b _::.b _::.b _::.r _::.i _::.i _::[]=>true
  | _=>false
noncomputable def s_N (l:List At):V:=match l with
  | .i a::.i b::.i c::.i d::.i e::.i f::.r g::.i i::.i j::.i m::.i o::.i p::.r q::.i r::.i s::.b t::.b u::.b v::.b w::.b y::.b z::.b A::.b B::.r D::.i E::.i F::[]=>(V.int .i64 (V_2 (D'.mk (F'.mk a b c d) e f g) (C'.mk i j m o p q r s (K'.mk t u v w y) z A B D E F)))
  | _=>.undef
abbrev k_b:List T:=[.agg D'.ts,.agg C'.ts]
noncomputable def n_y:CallF R:=callHook k_b n_x s_N
abbrev h_O:Prop:=Good1 (R:=V) Tryz.prog 11 n_y
noncomputable def n_z (l:List At):Bool:=match l with
  | .i _::.i _::.i _::.i _::.i _::.i _::.r _::.i _::.i _::.i _::.i _::.i _::.r _::.i _::.i _::.b _::.b _::.b _::.b _::.b _::.b _::.b _::.b _::.r _::.i _::.i _::.i _::.i _::[]=>true
  | _=>false
noncomputable def s_O (l:List At):V:=match l with
  | .i a::.i b::.i c::.i d::.i e::.i f::.r g::.i i::.i j::.i m::.i o::.i p::.r q::.i r::.i s::.b t::.b u::.b v::.b w::.b y::.b z::.b A::.b B::.r D::.i E::.i F::.i H::.i I::[]=>(V.bool (h_t (D'.mk (F'.mk a b c d) e f g) (C'.mk i j m o p q r s (K'.mk t u v w y) z A B D E F) H I))
  | _=>.undef
abbrev k_c:List T:=[.agg D'.ts,.agg C'.ts,.int .i64,.int .i64]
noncomputable def s_P:CallF R:=callHook k_c n_z s_O
abbrev q_S:Prop:=Good1 (R:=V) Tryz.prog 34 s_P
noncomputable def n_A (l:List At):Bool:=match l with
  | .i a::.i b::.i c::.i d::.i e::.i f::.r g::.i i::.i j::.i m::.i o::.i p::.r q::.i r::.i s::.b t::.b u::.b v::.b w::.b y::.b z::.b A::.b B::.r D::.i E::.i F::.i H::[]=>R_a (D'.mk (F'.mk a b c d) e f g) (C'.mk i j m o p q r s (K'.mk t u v w y) z A B D E F) H
  | _=>false
noncomputable def s_Q (l:List At):V:=match l with
  | .i a::.i b::.i c::.i d::.i e::.i f::.r g::.i i::.i j::.i m::.i o::.i p::.r q::.i r::.i s::.b t::.b u::.b v::.b w::.b y::.b z::.b A::.b B::.r D::.i E::.i F::.i H::[]=>(V.int .i64 (g_p (D'.mk (F'.mk a b c d) e f g) (C'.mk i j m o p q r s (K'.mk t u v w y) z A B D E F) H))
  | _=>.undef
abbrev k_d:List T:=[.agg D'.ts,.agg C'.ts,.int .i64]
noncomputable def y_N:CallF R:=callHook k_d n_A s_Q
abbrev q_T:Prop:=Good1 (R:=V) Tryz.prog 12 y_N
noncomputable def n_B (l:List At):Bool:=match l with
  | .i _::.i _::.i _::.i _::.i _::.i _::.r _::.i _::.i _::.i _::.i _::.i _::.r _::.i _::.i _::.b _::.b _::.b _::.b _::.b _::.b _::.b _::.b _::.r _::.i _::.i _::[]=>true
  | _=>false
noncomputable def s_R (l:List At):V:=match l with
  | .i a::.i b::.i c::.i d::.i e::.i f::.r g::.i i::.i j::.i m::.i o::.i p::.r q::.i r::.i s::.b t::.b u::.b v::.b w::.b y::.b z::.b A::.b B::.r D::.i E::.i F::[]=>(V.bool (h_u (D'.mk (F'.mk a b c d) e f g) (C'.mk i j m o p q r s (K'.mk t u v w y) z A B D E F)))
  | _=>.undef
abbrev k_e:List T:=[.agg D'.ts,.agg C'.ts]
noncomputable def y_O:CallF R:=callHook k_e n_B s_R
abbrev q_U:Prop:=Good1 (R:=V) Tryz.prog 4 y_O
noncomputable def n_C (l:List At):Bool:=match l with
  | .r _::.r _::[]=>true
  | _=>false
noncomputable def s_S (l:List At):V:=match l with
  | .r a::.r b::[]=>(V.bool (q_L a b))
  | _=>.undef
abbrev k_f:List T:=[.data [.int .u8],.data [.int .u8]]
noncomputable def y_P:CallF R:=callHook k_f n_C s_S
abbrev s_T:Prop:=Good1 (R:=V) Tryz.prog 13 y_P
noncomputable def n_D (l:List At):Bool:=match l with
  | .r a::.r b::[]=>O_P a b
  | _=>false
noncomputable def s_U (l:List At):V:=match l with
  | .r a::.r b::[]=>(V.data [.int .u8] (m_U a b))
  | _=>.undef
abbrev k_g:List T:=[.data [.int .u8],.data U'.sh]
noncomputable def y_Q:CallF R:=callHook k_g n_D s_U
abbrev q_V:Prop:=Good1 (R:=V) Tryz.prog 14 y_Q
noncomputable def n_E (l:List At):Bool:=match l with
  | []=>F_i
  | _=>false
noncomputable def s_V (l:List At):V:=match l with
  | []=>(V.bool g_q)
  | _=>.undef
abbrev k_h:List T:=[]
noncomputable def y_R:CallF R:=callHook k_h n_E s_V
abbrev s_W:Prop:=Good1 (R:=V) Tryz.prog 5 y_R
noncomputable def n_F (l:List At):Bool:=match l with
  | .i _::.i _::.i _::.i _::[]=>true
  | _=>false
noncomputable def s_X (l:List At):V:=match l with
  | .i a::.i b::.i c::.i d::[]=>(V.bool (A_3 (F'.mk a b c d)))
  | _=>.undef
abbrev k_i:List T:=[.agg F'.ts]
noncomputable def c_G:CallF R:=callHook k_i n_F s_X
abbrev T_S:Prop:=Good1 (R:=V) Tryz.prog 37 c_G
noncomputable def n_G (l:List At):Bool:=match l with
  | .i _::.i _::.i _::.i _::[]=>true
  | _=>false
noncomputable def s_Y (l:List At):V:=match l with
  | .i a::.i b::.i c::.i d::[]=>(V.bool (C_R (F'.mk a b c d)))
  | _=>.undef
abbrev k_j:List T:=[.agg F'.ts]
noncomputable def g_v:CallF R:=callHook k_j n_G s_Y
abbrev V_9:Prop:=Good1 (R:=V) Tryz.prog 38 g_v
noncomputable def n_H (l:List At):Bool:=match l with
  | .i _::.i _::[]=>true
  | _=>false
noncomputable def s_Z (l:List At):V:=match l with
  | .i a::.i b::[]=>(V.int .i64 (B_F a b))
  | _=>.undef
abbrev k_k:List T:=[.int .i64,.int .i64]
noncomputable def n_I:CallF R:=callHook k_k n_H s_Z
abbrev h_P:Prop:=Good1 (R:=V) Tryz.prog 71 n_I
noncomputable def n_J (l:List At):Bool:=match l with
  | .i _::.i _::.i _::.i _::.i _::.i _::[]=>true
  | _=>false
noncomputable def s_0 (l:List At):V:=match l with
  | .i a::.i b::.i c::.i d::.i e::.i f::[]=>(F'.v (D_j (F'.mk a b c d) e f))
  | _=>.undef
abbrev k_l:List T:=[.agg F'.ts,.int .i64,.int .i64]
noncomputable def k_m:CallF R:=callHook k_l n_J s_0
abbrev f_Y:Prop:=Good1 (R:=V) Tryz.prog 40 k_m
noncomputable def n_K (l:List At):Bool:=match l with
  | .i a::.i b::.r c::[]=>A_O a b c
  | _=>false
noncomputable def s_1 (l:List At):V:=match l with
  | .i a::.i b::.r c::[]=>(V.bool (K_F a b c))
  | _=>.undef
abbrev k_n:List T:=[.int .i64,.int .i64,.data [.int .i64]]
noncomputable def q_W:CallF R:=callHook k_n n_K s_1
abbrev g_w:Prop:=Good1 (R:=V) Tryz.prog 64 q_W
noncomputable def n_L (l:List At):Bool:=match l with
  | .i _::.i _::[]=>true
  | _=>false
noncomputable def s_2 (l:List At):V:=match l with
  | .i a::.i b::[]=>(V.int .i64 (D_k a b))
  | _=>.undef
abbrev k_o:List T:=[.int .i64,.int .i64]
noncomputable def q_X:CallF R:=callHook k_o n_L s_2
abbrev k_p:Prop:=Good1 (R:=V) Tryz.prog 72 q_X
noncomputable def n_M (l:List At):Bool:=match l with
  | .i _::.i _::.i _::.i _::[]=>true
  | _=>false
noncomputable def s_3 (l:List At):V:=match l with
  | .i a::.i b::.i c::.i d::[]=>(V.int .i64 (j_C (F'.mk a b c d)))
  | _=>.undef
abbrev k_q:List T:=[.agg F'.ts]
noncomputable def y_S:CallF R:=callHook k_q n_M s_3
abbrev q_Y:Prop:=Good1 (R:=V) Tryz.prog 73 y_S
noncomputable def n_N (l:List At):Bool:=match l with
  | .i _::.i _::.i _::.i _::.i _::.i _::.r _::[]=>true
  | _=>false
noncomputable def s_4 (l:List At):V:=match l with
  | .i a::.i b::.i c::.i d::.i e::.i f::.r g::[]=>(V.int .i64 (F_t (D'.mk (F'.mk a b c d) e f g)))
  | _=>.undef
abbrev k_r:List T:=[.agg D'.ts]
noncomputable def q_Z:CallF R:=callHook k_r n_N s_4
abbrev k_s:Prop:=Good1 (R:=V) Tryz.prog 41 q_Z
noncomputable def n_O (l:List At):Bool:=match l with
  | .i _::.i _::.i _::.i _::.i _::.i _::.r _::.i _::.i _::.i _::.i _::.i _::.r _::.i _::.i _::.b _::.b _::.b _::.b _::.b _::.b _::.b _::.b _::.r _::.i _::.i _::[]=>true
  | _=>false
noncomputable def s_5 (l:List At):V:=match l with
  | .i a::.i b::.i c::.i d::.i e::.i f::.r g::.i i::.i j::.i m::.i o::.i p::.r q::.i r::.i s::.b t::.b u::.b v::.b w::.b y::.b z::.b A::.b B::.r D::.i E::.i F::[]=>(V.bool (b_H (D'.mk (F'.mk a b c d) e f g) (C'.mk i j m o p q r s (K'.mk t u v w y) z A B D E F)))
  | _=>.undef
abbrev k_t:List T:=[.agg D'.ts,.agg C'.ts]
noncomputable def y_T:CallF R:=callHook k_t n_O s_5
abbrev n_P:Prop:=Good1 (R:=V) Tryz.prog 65 y_T
noncomputable def n_Q (l:List At):Bool:=match l with
  | .i _::.i _::.i _::.i _::.i _::.i _::.i _::.i _::[]=>true
  | _=>false
noncomputable def s_6 (l:List At):V:=match l with
  | .i a::.i b::.i c::.i d::.i e::.i f::.i g::.i i::[]=>(F'.v (C_S (F'.mk a b c d) (F'.mk e f g i)))
  | _=>.undef
abbrev k_u:List T:=[.agg F'.ts,.agg F'.ts]
noncomputable def g_x:CallF R:=callHook k_u n_Q s_6
abbrev W_a:Prop:=Good1 (R:=V) Tryz.prog 36 g_x
noncomputable def n_R (l:List At):Bool:=match l with
  | .i _::.i _::.i _::.i _::.i _::.i _::[]=>true
  | _=>false
noncomputable def s_7 (l:List At):V:=match l with
  | .i a::.i b::.i c::.i d::.i e::.i f::[]=>(V.data F'.sh (T_M (F'.mk a b c d) e f))
  | _=>.undef
abbrev k_v:List T:=[.agg F'.ts,.int .i64,.int .i64]
noncomputable def s_8:CallF R:=callHook k_v n_R s_7
abbrev m_x:Prop:=Good1 (R:=V) Tryz.prog 66 s_8
noncomputable def n_S (l:List At):Bool:=match l with
  | .i _::[]=>true
  | _=>false
noncomputable def s_9 (l:List At):V:=match l with
  | .i a::[]=>(V.bool (M_v a))
  | _=>.undef
abbrev k_w:List T:=[.int .i64]
noncomputable def n_T:CallF R:=callHook k_w n_S s_9
abbrev k_x:Prop:=Good1 (R:=V) Tryz.prog 77 n_T
noncomputable def n_U (l:List At):Bool:=match l with
  | .i _::.i _::.i _::.i _::.i _::.i _::[]=>true
  | _=>false
noncomputable def t_a (l:List At):V:=match l with
  | .i a::.i b::.i c::.i d::.i e::.i f::[]=>(F'.v (F_h (F'.mk a b c d) e f))
  | _=>.undef
abbrev k_y:List T:=[.agg F'.ts,.int .i64,.int .i64]
noncomputable def m_y:CallF R:=callHook k_y n_U t_a
abbrev g_y:Prop:=Good1 (R:=V) Tryz.prog 79 m_y
noncomputable def n_V (l:List At):Bool:=match l with
  | .i _::.i _::.i _::.i _::.i _::.r _::.i _::.i _::.b _::.b _::.b _::.b _::.b _::.b _::.b _::.b _::.r _::.i _::.i _::.i _::[]=>true
  | _=>false
noncomputable def t_b (l:List At):V:=match l with
  | .i a::.i b::.i c::.i d::.i e::.r f::.i g::.i i::.b j::.b m::.b o::.b p::.b q::.b r::.b s::.b t::.r u::.i v::.i w::.i y::[]=>(X'.v (A_X (C'.mk a b c d e f g i (K'.mk j m o p q) r s t u v w) y))
  | _=>.undef
abbrev k_z:List T:=[.agg C'.ts,.int .i64]
noncomputable def n_W:CallF R:=callHook k_z n_V t_b
abbrev k_A:Prop:=Good1 (R:=V) Tryz.prog 102 n_W
noncomputable def n_X (l:List At):Bool:=match l with
  | .i _::.i _::.i _::.i _::.i _::.i _::[]=>true
  | _=>false
noncomputable def t_c (l:List At):V:=match l with
  | .i a::.i b::.i c::.i d::.i e::.i f::[]=>(V.int .i64 (V_d (F'.mk a b c d) e f))
  | _=>.undef
abbrev k_B:List T:=[.agg F'.ts,.int .i64,.int .i64]
noncomputable def y_U:CallF R:=callHook k_B n_X t_c
abbrev q_0:Prop:=Good1 (R:=V) Tryz.prog 103 y_U
noncomputable def n_Y (l:List At):Bool:=match l with
  | .i _::.i _::[]=>true
  | _=>false
noncomputable def t_d (l:List At):V:=match l with
  | .i a::.i b::[]=>(V.data [.int .i64] (O_M a b))
  | _=>.undef
abbrev k_C:List T:=[.int .i64,.int .i64]
noncomputable def t_e:CallF R:=callHook k_C n_Y t_d
abbrev m_z:Prop:=Good1 (R:=V) Tryz.prog 104 t_e
noncomputable def n_Z (l:List At):Bool:=match l with
  | .i _::.i _::.i _::.i _::[]=>true
  | _=>false
noncomputable def t_f (l:List At):V:=match l with
  | .i a::.i b::.i c::.i d::[]=>(A_f.v (V_1 (F'.mk a b c d)))
  | _=>.undef
abbrev k_D:List T:=[.agg F'.ts]
noncomputable def t_g:CallF R:=callHook k_D n_Z t_f
abbrev n_0:Prop:=Good1 (R:=V) Tryz.prog 80 t_g
noncomputable def n_1 (l:List At):Bool:=match l with
  | .i _::[]=>true
  | _=>false
noncomputable def t_h (l:List At):V:=match l with
  | .i a::[]=>(V.int .i64 (V_e a))
  | _=>.undef
abbrev k_E:List T:=[.int .i64]
noncomputable def t_i:CallF R:=callHook k_E n_1 t_h
abbrev n_2:Prop:=Good1 (R:=V) Tryz.prog 78 t_i
noncomputable def n_3 (l:List At):Bool:=match l with
  | .i _::.i _::[]=>true
  | _=>false
noncomputable def t_j (l:List At):V:=match l with
  | .i a::.i b::[]=>(V.tup [(V.int .i64 (O_c a b).1),(V.int .i64 (O_c a b).2.1),(V.bool (O_c a b).2.2)])
  | _=>.undef
abbrev k_F:List T:=[.int .i64,.int .i64]
noncomputable def t_k:CallF R:=callHook k_F n_3 t_j
abbrev q_1:Prop:=Good1 (R:=V) Tryz.prog 128 t_k
noncomputable def n_4 (l:List At):Bool:=match l with
  | .i _::.i _::.i _::.i _::.i _::.i _::[]=>true
  | _=>false
noncomputable def t_l (l:List At):V:=match l with
  | .i a::.i b::.i c::.i d::.i e::.i f::[]=>(F'.v (Q_r (F'.mk a b c d) e f))
  | _=>.undef
abbrev k_G:List T:=[.agg F'.ts,.int .i64,.int .i64]
noncomputable def t_m:CallF R:=callHook k_G n_4 t_l
abbrev n_5:Prop:=Good1 (R:=V) Tryz.prog 105 t_m
noncomputable def n_6 (l:List At):Bool:=match l with
  | .i a::.i b::.i c::.i d::.i e::.i f::.r g::.i i::.i j::.i m::.i o::.i p::.r q::.i r::.i s::.b t::.b u::.b v::.b w::.b y::.b z::.b A::.b B::.r D::.i E::.i F::.i H::.i I::.i J::.i K::[]=>O_N (D'.mk (F'.mk a b c d) e f g) (C'.mk i j m o p q r s (K'.mk t u v w y) z A B D E F) (F'.mk H I J K)
  | _=>false
noncomputable def t_n (l:List At):V:=match l with
  | .i a::.i b::.i c::.i d::.i e::.i f::.r g::.i i::.i j::.i m::.i o::.i p::.r q::.i r::.i s::.b t::.b u::.b v::.b w::.b y::.b z::.b A::.b B::.r D::.i E::.i F::.i H::.i I::.i J::.i K::[]=>(V.bool (M_w (D'.mk (F'.mk a b c d) e f g) (C'.mk i j m o p q r s (K'.mk t u v w y) z A B D E F) (F'.mk H I J K)))
  | _=>.undef
abbrev k_H:List T:=[.agg D'.ts,.agg C'.ts,.agg F'.ts]
noncomputable def y_V:CallF R:=callHook k_H n_6 t_n
abbrev n_7:Prop:=Good1 (R:=V) Tryz.prog 67 y_V
noncomputable def n_8 (l:List At):Bool:=match l with
  | .i _::.i _::.i _::.i _::.i _::.i _::.r _::.i _::.i _::.i _::.i _::.i _::.r _::.i _::.i _::.b _::.b _::.b _::.b _::.b _::.b _::.b _::.b _::.r _::.i _::.i _::[]=>true
  | _=>false
noncomputable def t_o (l:List At):V:=match l with
  | .i a::.i b::.i c::.i d::.i e::.i f::.r g::.i i::.i j::.i m::.i o::.i p::.r q::.i r::.i s::.b t::.b u::.b v::.b w::.b y::.b z::.b A::.b B::.r D::.i E::.i F::[]=>(V.int .i64 (G_Y (D'.mk (F'.mk a b c d) e f g) (C'.mk i j m o p q r s (K'.mk t u v w y) z A B D E F)))
  | _=>.undef
abbrev k_I:List T:=[.agg D'.ts,.agg C'.ts]
noncomputable def q_2:CallF R:=callHook k_I n_8 t_o
abbrev m_A:Prop:=Good1 (R:=V) Tryz.prog 35 q_2
noncomputable def n_9 (l:List At):Bool:=match l with
  | .r a::[]=>K_H a
  | _=>false
noncomputable def t_p (l:List At):V:=match l with
  | .r a::[]=>(V.data H'.sh (m_V a))
  | _=>.undef
abbrev k_J:List T:=[.data H'.sh]
noncomputable def y_W:CallF R:=callHook k_J n_9 t_p
abbrev q_3:Prop:=Good1 (R:=V) Tryz.prog 68 y_W
noncomputable def o_a (l:List At):Bool:=match l with
  | .r a::[]=>K_I a
  | _=>false
noncomputable def t_q (l:List At):V:=match l with
  | .r a::[]=>(V.data U'.sh (m_W a))
  | _=>.undef
abbrev k_K:List T:=[.data U'.sh]
noncomputable def y_X:CallF R:=callHook k_K o_a t_q
abbrev q_4:Prop:=Good1 (R:=V) Tryz.prog 69 y_X
noncomputable def o_b (l:List At):Bool:=match l with
  | .r a::[]=>K_J a
  | _=>false
noncomputable def t_r (l:List At):V:=match l with
  | .r a::[]=>(V.data [.int .i64] (m_X a))
  | _=>.undef
abbrev k_L:List T:=[.data [.int .i64]]
noncomputable def y_Y:CallF R:=callHook k_L o_b t_r
abbrev q_5:Prop:=Good1 (R:=V) Tryz.prog 70 y_Y
noncomputable def o_c (l:List At):Bool:=match l with
  | .i a::.i b::.i c::.i d::.i e::.i f::.r g::.i i::.i j::.i m::.i o::.i p::.r q::.i r::.i s::.b t::.b u::.b v::.b w::.b y::.b z::.b A::.b B::.r D::.i E::.i F::[]=>G_Z (D'.mk (F'.mk a b c d) e f g) (C'.mk i j m o p q r s (K'.mk t u v w y) z A B D E F)
  | _=>false
noncomputable def t_s (l:List At):V:=match l with
  | .i a::.i b::.i c::.i d::.i e::.i f::.r g::.i i::.i j::.i m::.i o::.i p::.r q::.i r::.i s::.b t::.b u::.b v::.b w::.b y::.b z::.b A::.b B::.r D::.i E::.i F::[]=>(V.tup [(D'.v (c_u (D'.mk (F'.mk a b c d) e f g) (C'.mk i j m o p q r s (K'.mk t u v w y) z A B D E F)).1),(C'.v (c_u (D'.mk (F'.mk a b c d) e f g) (C'.mk i j m o p q r s (K'.mk t u v w y) z A B D E F)).2)])
  | _=>.undef
abbrev k_M:List T:=[.agg D'.ts,.agg C'.ts]
noncomputable def y_Z:CallF R:=callHook k_M o_c t_s
abbrev t_t:Prop:=Good1 (R:=V) Tryz.prog 39 y_Z
noncomputable def o_d (l:List At):Bool:=match l with
  | .i a::.i b::.i c::.i d::.i e::.i f::.r g::.i i::.i j::.i m::.i o::.i p::.r q::.i r::.i s::.b t::.b u::.b v::.b w::.b y::.b z::.b A::.b B::.r D::.i E::.i F::.i H::.i I::.i J::.i K::.i L::.i M::[]=>R_b (D'.mk (F'.mk a b c d) e f g) (C'.mk i j m o p q r s (K'.mk t u v w y) z A B D E F) (O'.mk H I (F'.mk J K L M))
  | _=>false
noncomputable def t_u (l:List At):V:=match l with
  | .i a::.i b::.i c::.i d::.i e::.i f::.r g::.i i::.i j::.i m::.i o::.i p::.r q::.i r::.i s::.b t::.b u::.b v::.b w::.b y::.b z::.b A::.b B::.r D::.i E::.i F::.i H::.i I::.i J::.i K::.i L::.i M::[]=>(V.tup [(D'.v (O_Q (D'.mk (F'.mk a b c d) e f g) (C'.mk i j m o p q r s (K'.mk t u v w y) z A B D E F) (O'.mk H I (F'.mk J K L M))).1),(V.int .i64 (O_Q (D'.mk (F'.mk a b c d) e f g) (C'.mk i j m o p q r s (K'.mk t u v w y) z A B D E F) (O'.mk H I (F'.mk J K L M))).2)])
  | _=>.undef
abbrev k_N:List T:=[.agg D'.ts,.agg C'.ts,.agg O'.ts]
noncomputable def y_0:CallF R:=callHook k_N o_d t_u
abbrev q_6:Prop:=Good1 (R:=V) Tryz.prog 15 y_0
noncomputable def o_e (l:List At):Bool:=match l with
  | .i _::.i _::.i _::.i _::.i _::.i _::.r _::[]=>true
  | _=>false
noncomputable def t_v (l:List At):V:=match l with
  | .i a::.i b::.i c::.i d::.i e::.i f::.r g::[]=>(V.data F'.sh (B_f (D'.mk (F'.mk a b c d) e f g)))
  | _=>.undef
abbrev k_O:List T:=[.agg D'.ts]
noncomputable def m_B:CallF R:=callHook k_O o_e t_v
abbrev h_Q:Prop:=Good1 (R:=V) Tryz.prog 42 m_B
noncomputable def o_f (l:List At):Bool:=match l with
  | .i _::.i _::.i _::.i _::.i _::.i _::.r _::.i _::.i _::.i _::.i _::.i _::.r _::.i _::.i _::.b _::.b _::.b _::.b _::.b _::.b _::.b _::.b _::.r _::.i _::.i _::.i _::[]=>true
  | _=>false
noncomputable def t_w (l:List At):V:=match l with
  | .i a::.i b::.i c::.i d::.i e::.i f::.r g::.i i::.i j::.i m::.i o::.i p::.r q::.i r::.i s::.b t::.b u::.b v::.b w::.b y::.b z::.b A::.b B::.r D::.i E::.i F::.i H::[]=>(V.int .i64 (T_r (D'.mk (F'.mk a b c d) e f g) (C'.mk i j m o p q r s (K'.mk t u v w y) z A B D E F) H))
  | _=>.undef
abbrev k_P:List T:=[.agg D'.ts,.agg C'.ts,.int .i64]
noncomputable def y_1:CallF R:=callHook k_P o_f t_w
abbrev q_7:Prop:=Good1 (R:=V) Tryz.prog 74 y_1
noncomputable def o_g (l:List At):Bool:=match l with
  | .i _::.i _::.i _::.i _::.i _::.i _::.r _::.i _::.i _::[]=>true
  | _=>false
noncomputable def t_x (l:List At):V:=match l with
  | .i a::.i b::.i c::.i d::.i e::.i f::.r g::.i i::.i j::[]=>(F'.v (H_z (D'.mk (F'.mk a b c d) e f g) i j))
  | _=>.undef
abbrev k_Q:List T:=[.agg D'.ts,.int .i64,.int .i64]
noncomputable def q_8:CallF R:=callHook k_Q o_g t_x
abbrev o_h:Prop:=Good1 (R:=V) Tryz.prog 46 q_8
noncomputable def o_i (l:List At):Bool:=match l with
  | .i _::.i _::.i _::.i _::.i _::.i _::.r _::.i _::.i _::.i _::.i _::.i _::.r _::.i _::.i _::.b _::.b _::.b _::.b _::.b _::.b _::.b _::.b _::.r _::.i _::.i _::.i _::.i _::[]=>true
  | _=>false
noncomputable def t_y (l:List At):V:=match l with
  | .i a::.i b::.i c::.i d::.i e::.i f::.r g::.i i::.i j::.i m::.i o::.i p::.r q::.i r::.i s::.b t::.b u::.b v::.b w::.b y::.b z::.b A::.b B::.r D::.i E::.i F::.i H::.i I::[]=>(V.bool (c_v (D'.mk (F'.mk a b c d) e f g) (C'.mk i j m o p q r s (K'.mk t u v w y) z A B D E F) H I))
  | _=>.undef
abbrev k_R:List T:=[.agg D'.ts,.agg C'.ts,.int .i64,.int .i64]
noncomputable def t_z:CallF R:=callHook k_R o_i t_y
abbrev q_9:Prop:=Good1 (R:=V) Tryz.prog 82 t_z
noncomputable def o_j (l:List At):Bool:=match l with
  | .i _::.i _::.i _::[]=>true
  | _=>false
noncomputable def t_A (l:List At):V:=match l with
  | .i a::.i b::.i c::[]=>(V.bool (j_D a b c))
  | _=>.undef
abbrev k_S:List T:=[.int .i64,.int .i64,.int .i64]
noncomputable def y_2:CallF R:=callHook k_S o_j t_A
abbrev t_B:Prop:=Good1 (R:=V) Tryz.prog 159 y_2
noncomputable def o_k (l:List At):Bool:=match l with
  | .i _::.i _::.i _::[]=>true
  | _=>false
noncomputable def t_C (l:List At):V:=match l with
  | .i a::.i b::.i c::[]=>(V.tup [(V.int .i64 (g_r a b c).1),(V.int .i64 (g_r a b c).2)])
  | _=>.undef
abbrev k_T:List T:=[.int .i64,.int .i64,.int .i64]
noncomputable def y_3:CallF R:=callHook k_T o_k t_C
abbrev t_D:Prop:=Good1 (R:=V) Tryz.prog 160 y_3
noncomputable def o_l (l:List At):Bool:=match l with
  | .i _::.i _::.i _::.i _::.i _::.i _::.i _::[]=>true
  | _=>false
noncomputable def t_E (l:List At):V:=match l with
  | .i a::.i b::.i c::.i d::.i e::.i f::.i g::[]=>(V.tup [(V.int .i64 (A_J (F'.mk a b c d) e f g).1),(V.int .i64 (A_J (F'.mk a b c d) e f g).2.1),(V.int .i64 (A_J (F'.mk a b c d) e f g).2.2.1),(V.int .i64 (A_J (F'.mk a b c d) e f g).2.2.2)])
  | _=>.undef
abbrev k_U:List T:=[.agg F'.ts,.int .i64,.int .i64,.int .i64]
noncomputable def r_a:CallF R:=callHook k_U o_l t_E
abbrev m_C:Prop:=Good1 (R:=V) Tryz.prog 144 r_a
noncomputable def o_m (l:List At):Bool:=match l with
  | .i _::.i _::.i _::.i _::.i _::.i _::[]=>true
  | _=>false
noncomputable def t_F (l:List At):V:=match l with
  | .i a::.i b::.i c::.i d::.i e::.i f::[]=>(V.tup [(V.int .i64 (m_i (F'.mk a b c d) e f).1),(V.int .i64 (m_i (F'.mk a b c d) e f).2)])
  | _=>.undef
abbrev k_V:List T:=[.agg F'.ts,.int .i64,.int .i64]
noncomputable def y_4:CallF R:=callHook k_V o_m t_F
abbrev t_G:Prop:=Good1 (R:=V) Tryz.prog 129 y_4
noncomputable def o_n (l:List At):Bool:=match l with
  | .i _::.i _::.i _::.i _::.i _::.i _::.r _::.i _::.i _::.i _::.i _::.i _::.r _::.i _::.i _::.b _::.b _::.b _::.b _::.b _::.b _::.b _::.b _::.r _::.i _::.i _::.i _::.i _::.i _::[]=>true
  | _=>false
noncomputable def t_H (l:List At):V:=match l with
  | .i a::.i b::.i c::.i d::.i e::.i f::.r g::.i i::.i j::.i m::.i o::.i p::.r q::.i r::.i s::.b t::.b u::.b v::.b w::.b y::.b z::.b A::.b B::.r D::.i E::.i F::.i H::.i I::.i J::[]=>(V.tup [(F'.v (M_9 (D'.mk (F'.mk a b c d) e f g) (C'.mk i j m o p q r s (K'.mk t u v w y) z A B D E F) H I J).1),(V.int .i64 (M_9 (D'.mk (F'.mk a b c d) e f g) (C'.mk i j m o p q r s (K'.mk t u v w y) z A B D E F) H I J).2.1),(V.int .i64 (M_9 (D'.mk (F'.mk a b c d) e f g) (C'.mk i j m o p q r s (K'.mk t u v w y) z A B D E F) H I J).2.2)])
  | _=>.undef
abbrev k_W:List T:=[.agg D'.ts,.agg C'.ts,.int .i64,.int .i64,.int .i64]
noncomputable def y_5:CallF R:=callHook k_W o_n t_H
abbrev r_b:Prop:=Good1 (R:=V) Tryz.prog 106 y_5
noncomputable def o_o (l:List At):Bool:=match l with
  | .i _::.i _::.i _::.i _::.i _::.i _::.i _::[]=>true
  | _=>false
noncomputable def t_I (l:List At):V:=match l with
  | .i a::.i b::.i c::.i d::.i e::.i f::.i g::[]=>(V.tup [(V.int .i64 (K_K (F'.mk a b c d) e f g).1),(V.int .i64 (K_K (F'.mk a b c d) e f g).2.1),(V.bool (K_K (F'.mk a b c d) e f g).2.2)])
  | _=>.undef
abbrev k_X:List T:=[.agg F'.ts,.int .i64,.int .i64,.int .i64]
noncomputable def t_J:CallF R:=callHook k_X o_o t_I
abbrev r_c:Prop:=Good1 (R:=V) Tryz.prog 145 t_J
noncomputable def o_p (l:List At):Bool:=match l with
  | .i _::.i _::.i _::.i _::[]=>true
  | _=>false
noncomputable def t_K (l:List At):V:=match l with
  | .i a::.i b::.i c::.i d::[]=>(F'.v (R_c a b c d))
  | _=>.undef
abbrev k_Y:List T:=[.int .i64,.int .i64,.int .i64,.int .i64]
noncomputable def r_d:CallF R:=callHook k_Y o_p t_K
abbrev m_D:Prop:=Good1 (R:=V) Tryz.prog 146 r_d
noncomputable def o_q (l:List At):Bool:=match l with
  | .i _::.i _::.i _::.i _::.i _::.i _::.i _::[]=>true
  | _=>false
noncomputable def t_L (l:List At):V:=match l with
  | .i a::.i b::.i c::.i d::.i e::.i f::.i g::[]=>(V.tup [(F'.v (j_E (F'.mk a b c d) e f g).1),(V.bool (j_E (F'.mk a b c d) e f g).2)])
  | _=>.undef
abbrev k_Z:List T:=[.agg F'.ts,.int .i64,.int .i64,.int .i64]
noncomputable def y_6:CallF R:=callHook k_Z o_q t_L
abbrev t_M:Prop:=Good1 (R:=V) Tryz.prog 130 y_6
noncomputable def o_r (l:List At):Bool:=match l with
  | .i a::.i b::.i c::.i d::.i e::.i f::.r g::.i i::.i j::.i m::.i o::.i p::.r q::.i r::.i s::.b t::.b u::.b v::.b w::.b y::.b z::.b A::.b B::.r D::.i E::.i F::.i H::.i I::.i J::.i K::.i L::.i M::.i N::.i O::[]=>R_d (D'.mk (F'.mk a b c d) e f g) (C'.mk i j m o p q r s (K'.mk t u v w y) z A B D E F) (F'.mk H I J K) (G'.mk L M N O)
  | _=>false
noncomputable def t_N (l:List At):V:=match l with
  | .i a::.i b::.i c::.i d::.i e::.i f::.r g::.i i::.i j::.i m::.i o::.i p::.r q::.i r::.i s::.b t::.b u::.b v::.b w::.b y::.b z::.b A::.b B::.r D::.i E::.i F::.i H::.i I::.i J::.i K::.i L::.i M::.i N::.i O::[]=>(V.tup [(X'.v (m_j (D'.mk (F'.mk a b c d) e f g) (C'.mk i j m o p q r s (K'.mk t u v w y) z A B D E F) (F'.mk H I J K) (G'.mk L M N O)).1),(V.bool (m_j (D'.mk (F'.mk a b c d) e f g) (C'.mk i j m o p q r s (K'.mk t u v w y) z A B D E F) (F'.mk H I J K) (G'.mk L M N O)).2)])
  | _=>.undef
abbrev k_0:List T:=[.agg D'.ts,.agg C'.ts,.agg F'.ts,.agg F'.ts]
noncomputable def y_7:CallF R:=callHook k_0 o_r t_N
abbrev r_e:Prop:=Good1 (R:=V) Tryz.prog 107 y_7
noncomputable def o_s (l:List At):Bool:=match l with
  | .i _::.i _::.i _::.i _::.i _::.i _::.i _::[]=>true
  | _=>false
noncomputable def t_O (l:List At):V:=match l with
  | .i a::.i b::.i c::.i d::.i e::.i f::.i g::[]=>(Y'.v (R_e a (I'.mk (G'.mk b c d e) (X'.mk f g))))
  | _=>.undef
abbrev k_1:List T:=[.int .i64,.agg O'.ts]
noncomputable def y_8:CallF R:=callHook k_1 o_s t_O
abbrev t_P:Prop:=Good1 (R:=V) Tryz.prog 110 y_8
noncomputable def o_t (l:List At):Bool:=match l with
  | .i _::[]=>true
  | _=>false
noncomputable def t_Q (l:List At):V:=match l with
  | .i a::[]=>(V.bool (h_y a))
  | _=>.undef
abbrev k_2:List T:=[.int .i64]
noncomputable def y_9:CallF R:=callHook k_2 o_t t_Q
abbrev t_R:Prop:=Good1 (R:=V) Tryz.prog 132 y_9
noncomputable def o_u (l:List At):Bool:=match l with
  | .i _::.i _::[]=>true
  | _=>false
noncomputable def t_S (l:List At):V:=match l with
  | .i a::.i b::[]=>(V.int .i64 (N_a a b))
  | _=>.undef
abbrev k_3:List T:=[.int .i64,.int .i64]
noncomputable def z_a:CallF R:=callHook k_3 o_u t_S
abbrev t_T:Prop:=Good1 (R:=V) Tryz.prog 111 z_a
noncomputable def o_v (l:List At):Bool:=match l with
  | .i _::.i _::.i _::.i _::.i _::.i _::.i _::.i _::.i _::.i _::.i _::.i _::.i _::.i _::.i _::.i _::.i _::.r _::.i _::.i _::.b _::.b _::.b _::.b _::.b _::.b _::.b _::.b _::.r _::.i _::.i _::[]=>true
  | _=>false
noncomputable def t_U (l:List At):V:=match l with
  | .i a::.i b::.i c::.i d::.i e::.i f::.i g::.i i::.i j::.i m::.i o::.i p::.i q::.i r::.i s::.i t::.i u::.r v::.i w::.i y::.b z::.b A::.b B::.b D::.b E::.b F::.b H::.b I::.r J::.i K::.i L::[]=>(V.int .i64 (m_k (I'.mk (G'.mk a b c d) (X'.mk e f)) (I'.mk (G'.mk g i j m) (X'.mk o p)) (C'.mk q r s t u v w y (K'.mk z A B D E) F H I J K L)))
  | _=>.undef
abbrev k_4:List T:=[.agg O'.ts,.agg O'.ts,.pdc C'.sh 0 [.int .i64,.int .i64,.int .i64,.int .i64,.int .i64,.data U'.sh,.int .i64,.int .i64,.bool,.bool,.bool,.bool,.bool,.bool,.bool,.bool,.data [.int .i64],.int .i64,.int .i64]]
noncomputable def z_b:CallF R:=callHook k_4 o_v t_U
abbrev r_f:Prop:=Good1 (R:=V) Tryz.prog 109 z_b
noncomputable def o_w (l:List At):Bool:=match l with
  | .i a::.i b::.i c::.i d::.i e::.i f::.r g::.i i::.i j::.i m::.i o::.i p::.r q::.i r::.i s::.b t::.b u::.b v::.b w::.b y::.b z::.b A::.b B::.r D::.i E::.i F::.i H::[]=>R_g (D'.mk (F'.mk a b c d) e f g) (C'.mk i j m o p q r s (K'.mk t u v w y) z A B D E F) H
  | _=>false
noncomputable def t_V (l:List At):V:=match l with
  | .i a::.i b::.i c::.i d::.i e::.i f::.r g::.i i::.i j::.i m::.i o::.i p::.r q::.i r::.i s::.b t::.b u::.b v::.b w::.b y::.b z::.b A::.b B::.r D::.i E::.i F::.i H::[]=>(V.data O'.sh (Q_s (D'.mk (F'.mk a b c d) e f g) (C'.mk i j m o p q r s (K'.mk t u v w y) z A B D E F) H))
  | _=>.undef
abbrev k_5:List T:=[.agg D'.ts,.agg C'.ts,.int .i64]
noncomputable def z_c:CallF R:=callHook k_5 o_w t_V
abbrev o_x:Prop:=Good1 (R:=V) Tryz.prog 75 z_c
noncomputable def o_y (l:List At):Bool:=match l with
  | .i _::.i _::.i _::.i _::.i _::.i _::.r _::.i _::.i _::.i _::.i _::.i _::.r _::.i _::.i _::.b _::.b _::.b _::.b _::.b _::.b _::.b _::.b _::.r _::.i _::.i _::.i _::[]=>true
  | _=>false
noncomputable def t_W (l:List At):V:=match l with
  | .i a::.i b::.i c::.i d::.i e::.i f::.r g::.i i::.i j::.i m::.i o::.i p::.r q::.i r::.i s::.b t::.b u::.b v::.b w::.b y::.b z::.b A::.b B::.r D::.i E::.i F::.i H::[]=>(V.tup [(V.data F'.sh (M_x (D'.mk (F'.mk a b c d) e f g) (C'.mk i j m o p q r s (K'.mk t u v w y) z A B D E F) H).1),(V.int .i64 (M_x (D'.mk (F'.mk a b c d) e f g) (C'.mk i j m o p q r s (K'.mk t u v w y) z A B D E F) H).2)])
  | _=>.undef
abbrev k_6:List T:=[.agg D'.ts,.agg C'.ts,.int .i64]
noncomputable def z_d:CallF R:=callHook k_6 o_y t_W
abbrev o_z:Prop:=Good1 (R:=V) Tryz.prog 43 z_d
noncomputable def o_A (l:List At):Bool:=match l with
  | .i a::.i b::.i c::.i d::.i e::.i f::.r g::.i i::.i j::.i m::.i o::.i p::.r q::.i r::.i s::.b t::.b u::.b v::.b w::.b y::.b z::.b A::.b B::.r D::.i E::.i F::.r H::[]=>O_R (D'.mk (F'.mk a b c d) e f g) (C'.mk i j m o p q r s (K'.mk t u v w y) z A B D E F) H
  | _=>false
noncomputable def t_X (l:List At):V:=match l with
  | .i a::.i b::.i c::.i d::.i e::.i f::.r g::.i i::.i j::.i m::.i o::.i p::.r q::.i r::.i s::.b t::.b u::.b v::.b w::.b y::.b z::.b A::.b B::.r D::.i E::.i F::.r H::[]=>(V.tup [(V.data A_b.sh (Q_t (D'.mk (F'.mk a b c d) e f g) (C'.mk i j m o p q r s (K'.mk t u v w y) z A B D E F) H).1),(V.int .i64 (Q_t (D'.mk (F'.mk a b c d) e f g) (C'.mk i j m o p q r s (K'.mk t u v w y) z A B D E F) H).2)])
  | _=>.undef
abbrev k_7:List T:=[.agg D'.ts,.agg C'.ts,.data V'.sh]
noncomputable def z_e:CallF R:=callHook k_7 o_A t_X
abbrev o_B:Prop:=Good1 (R:=V) Tryz.prog 16 z_e
noncomputable def o_C (l:List At):Bool:=match l with
  | .i a::.i b::.i c::.i d::.i e::.i f::.r g::.i i::.i j::.i m::.i o::.i p::.r q::.i r::.i s::.b t::.b u::.b v::.b w::.b y::.b z::.b A::.b B::.r D::.i E::.i F::.i H::.i I::.i J::.i K::.i L::.i M::[]=>R_h (D'.mk (F'.mk a b c d) e f g) (C'.mk i j m o p q r s (K'.mk t u v w y) z A B D E F) (O'.mk H I (F'.mk J K L M))
  | _=>false
noncomputable def t_Y (l:List At):V:=match l with
  | .i a::.i b::.i c::.i d::.i e::.i f::.r g::.i i::.i j::.i m::.i o::.i p::.r q::.i r::.i s::.b t::.b u::.b v::.b w::.b y::.b z::.b A::.b B::.r D::.i E::.i F::.i H::.i I::.i J::.i K::.i L::.i M::[]=>(V.fn 44 [(V.pdat [.int .i64] [(V.int .i64 (T_s (D'.mk (F'.mk a b c d) e f g) (C'.mk i j m o p q r s (K'.mk t u v w y) z A B D E F) (O'.mk H I (F'.mk J K L M))).1)] 0),(V.pdat C'.sh (C'.row (T_s (D'.mk (F'.mk a b c d) e f g) (C'.mk i j m o p q r s (K'.mk t u v w y) z A B D E F) (O'.mk H I (F'.mk J K L M))).2.1) 0),(V.pdat O'.sh (O'.row (T_s (D'.mk (F'.mk a b c d) e f g) (C'.mk i j m o p q r s (K'.mk t u v w y) z A B D E F) (O'.mk H I (F'.mk J K L M))).2.2.1) 0),(V.pdat [.sl F'.sh] [(V.data F'.sh (T_s (D'.mk (F'.mk a b c d) e f g) (C'.mk i j m o p q r s (K'.mk t u v w y) z A B D E F) (O'.mk H I (F'.mk J K L M))).2.2.2.1)] 0),(V.pdat D'.sh (D'.row (T_s (D'.mk (F'.mk a b c d) e f g) (C'.mk i j m o p q r s (K'.mk t u v w y) z A B D E F) (O'.mk H I (F'.mk J K L M))).2.2.2.2.1) 0),(V.pdat [.int .i64] [(V.int .i64 (T_s (D'.mk (F'.mk a b c d) e f g) (C'.mk i j m o p q r s (K'.mk t u v w y) z A B D E F) (O'.mk H I (F'.mk J K L M))).2.2.2.2.2)] 0)])
  | _=>.undef
abbrev k_8:List T:=[.agg D'.ts,.agg C'.ts,.agg O'.ts]
noncomputable def z_f:CallF R:=callHook k_8 o_C t_Y
abbrev r_g:Prop:=Good1 (R:=V) Tryz.prog 17 z_f
noncomputable def o_D (l:List At):Bool:=match l with
  | .i _::.i _::.i _::.i _::[]=>true
  | _=>false
noncomputable def t_Z (l:List At):V:=match l with
  | .i a::.i b::.i c::.i d::[]=>(V.int .i64 (q_M (U'.mk a b) (U'.mk c d)))
  | _=>.undef
abbrev k_9:List T:=[.agg U'.ts,.agg U'.ts]
noncomputable def z_g:CallF R:=callHook k_9 o_D t_Z
abbrev r_h:Prop:=Good1 (R:=V) Tryz.prog 19 z_g
noncomputable def o_E (l:List At):Bool:=match l with
  | .i _::[]=>true
  | _=>false
noncomputable def t_0 (l:List At):V:=match l with
  | .i a::[]=>(V.int .i64 (O_d a))
  | _=>.undef
abbrev l_a:List T:=[.int .i64]
noncomputable def z_h:CallF R:=callHook l_a o_E t_0
abbrev r_i:Prop:=Good1 (R:=V) Tryz.prog 76 z_h
noncomputable def o_F (l:List At):Bool:=match l with
  | .i _::.i _::.i _::.i _::.i _::.i _::.i _::.i _::.i _::.i _::.i _::[]=>true
  | _=>false
noncomputable def t_1 (l:List At):V:=match l with
  | .i a::.i b::.i c::.i d::.i e::.i f::.i g::.i i::.i j::.i m::.i o::[]=>(V.data F'.sh (V_f (F'.mk a b c d) e f (F'.mk g i j m) o))
  | _=>.undef
abbrev l_b:List T:=[.agg F'.ts,.int .i64,.int .i64,.agg F'.ts,.int .i64]
noncomputable def z_i:CallF R:=callHook l_b o_F t_1
abbrev r_j:Prop:=Good1 (R:=V) Tryz.prog 45 z_i
noncomputable def o_G (l:List At):Bool:=match l with
  | .i a::.i b::.i c::.i d::.i e::.i f::.i g::.i i::.i j::.i m::.i o::.i p::.i q::.i r::.i s::.r t::[]=>N_d (N'.mk a b c d e (F'.mk f g i j)) (O'.mk m o (F'.mk p q r s)) t
  | _=>false
noncomputable def t_2 (l:List At):V:=match l with
  | .i a::.i b::.i c::.i d::.i e::.i f::.i g::.i i::.i j::.i m::.i o::.i p::.i q::.i r::.i s::.r t::[]=>(V.bool (j_F (N'.mk a b c d e (F'.mk f g i j)) (O'.mk m o (F'.mk p q r s)) t))
  | _=>.undef
abbrev l_c:List T:=[.agg N'.ts,.pdc O'.sh 0 [.int .i64,.int .i64,.int .i64,.int .i64,.int .i64,.int .i64],.pdc [.sl F'.sh] 0 [.data F'.sh]]
noncomputable def z_j:CallF R:=callHook l_c o_G t_2
abbrev r_k:Prop:=Good1 (R:=V) Tryz.prog 49 z_j
noncomputable def o_H (l:List At):Bool:=match l with
  | .r a::.i b::.i c::.i d::.i e::.i f::.i g::.r i::[]=>K_L a (O'.mk b c (F'.mk d e f g)) i
  | _=>false
noncomputable def t_3 (l:List At):V:=match l with
  | .r a::.i b::.i c::.i d::.i e::.i f::.i g::.r i::[]=>(V.int .i64 (m_l a (O'.mk b c (F'.mk d e f g)) i))
  | _=>.undef
abbrev l_d:List T:=[.data N'.sh,.fn 49 [.pdc O'.sh 0 [.int .i64,.int .i64,.int .i64,.int .i64,.int .i64,.int .i64],.pdc [.sl F'.sh] 0 [.data F'.sh]]]
noncomputable def z_k:CallF R:=callHook l_d o_H t_3
abbrev r_l:Prop:=Good1 (R:=V) Tryz.prog 81 z_k
noncomputable def o_I (l:List At):Bool:=match l with
  | .r a::.i b::.i c::.i d::.i e::.i f::.i g::.r i::[]=>G_0 a (O'.mk b c (F'.mk d e f g)) i
  | _=>false
noncomputable def t_4 (l:List At):V:=match l with
  | .r a::.i b::.i c::.i d::.i e::.i f::.i g::.r i::[]=>(V.bool (h_z a (O'.mk b c (F'.mk d e f g)) i))
  | _=>.undef
abbrev l_e:List T:=[.data N'.sh,.fn 49 [.pdc O'.sh 0 [.int .i64,.int .i64,.int .i64,.int .i64,.int .i64,.int .i64],.pdc [.sl F'.sh] 0 [.data F'.sh]]]
noncomputable def z_l:CallF R:=callHook l_e o_I t_4
abbrev t_5:Prop:=Good1 (R:=V) Tryz.prog 47 z_l
noncomputable def o_J (l:List At):Bool:=match l with
  | .i _::.i _::.i _::.i _::.i _::.i _::.i _::.i _::.i _::.i _::.i _::.i _::[]=>true
  | _=>false
noncomputable def t_6 (l:List At):V:=match l with
  | .i a::.i b::.i c::.i d::.i e::.i f::.i g::.i i::.i j::.i m::.i o::.i p::[]=>(V.tup [(F'.v (b_J (F'.mk a b c d) (F'.mk e f g i) j m o p).1),(V.bool (b_J (F'.mk a b c d) (F'.mk e f g i) j m o p).2)])
  | _=>.undef
abbrev l_f:List T:=[.agg F'.ts,.agg F'.ts,.int .i64,.int .i64,.int .i64,.int .i64]
noncomputable def z_m:CallF R:=callHook l_f o_J t_6
abbrev t_7:Prop:=Good1 (R:=V) Tryz.prog 133 z_m
noncomputable def o_K (l:List At):Bool:=match l with
  | .i _::.i _::.i _::.i _::.i _::.i _::[]=>true
  | _=>false
noncomputable def t_8 (l:List At):V:=match l with
  | .i a::.i b::.i c::.i d::.i e::.i f::[]=>(V.tup [(V.int .i64 (O_f (F'.mk a b c d) e f).1),(V.int .i64 (O_f (F'.mk a b c d) e f).2.1),(V.data F'.sh (O_f (F'.mk a b c d) e f).2.2)])
  | _=>.undef
abbrev l_g:List T:=[.agg F'.ts,.int .i64,.int .i64]
noncomputable def z_n:CallF R:=callHook l_g o_K t_8
abbrev r_m:Prop:=Good1 (R:=V) Tryz.prog 134 z_n
noncomputable def o_L (l:List At):Bool:=match l with
  | .i _::.i _::.i _::.i _::.i _::.i _::.r _::.i _::.i _::.i _::.i _::.i _::.r _::.i _::.i _::.b _::.b _::.b _::.b _::.b _::.b _::.b _::.b _::.r _::.i _::.i _::.i _::.i _::.i _::.i _::[]=>true
  | _=>false
noncomputable def t_9 (l:List At):V:=match l with
  | .i a::.i b::.i c::.i d::.i e::.i f::.r g::.i i::.i j::.i m::.i o::.i p::.r q::.i r::.i s::.b t::.b u::.b v::.b w::.b y::.b z::.b A::.b B::.r D::.i E::.i F::.i H::.i I::.i J::.i K::[]=>(A_a.v (h_A (D'.mk (F'.mk a b c d) e f g) (C'.mk i j m o p q r s (K'.mk t u v w y) z A B D E F) H I J K))
  | _=>.undef
abbrev l_h:List T:=[.agg D'.ts,.agg C'.ts,.int .i64,.int .i64,.int .i64,.int .i64]
noncomputable def z_o:CallF R:=callHook l_h o_L t_9
abbrev r_n:Prop:=Good1 (R:=V) Tryz.prog 113 z_o
noncomputable def o_M (l:List At):Bool:=match l with
  | .i _::.i _::.i _::.i _::.i _::.i _::.i _::.r _::.i _::.i _::.i _::.i _::.i _::.r _::.i _::.i _::.b _::.b _::.b _::.b _::.b _::.b _::.b _::.b _::.r _::.i _::.i _::.i _::.i _::.i _::.i _::.i _::[]=>true
  | _=>false
noncomputable def u_a (l:List At):V:=match l with
  | .i a::.i b::.i c::.i d::.i e::.i f::.i g::.r i::.i j::.i m::.i o::.i p::.i q::.r r::.i s::.i t::.b u::.b v::.b w::.b y::.b z::.b A::.b B::.b D::.r E::.i F::.i H::.i I::.i J::.i K::.i L::.i M::[]=>(V.data N'.sh (T_P a (D'.mk (F'.mk b c d e) f g i) (C'.mk j m o p q r s t (K'.mk u v w y z) A B D E F H) I (G'.mk J K L M)))
  | _=>.undef
abbrev l_i:List T:=[.int .i64,.pdc D'.sh 0 [.int .i64,.int .i64,.int .i64,.int .i64,.int .i64,.int .i64,.data H'.sh],.pdc C'.sh 0 [.int .i64,.int .i64,.int .i64,.int .i64,.int .i64,.data U'.sh,.int .i64,.int .i64,.bool,.bool,.bool,.bool,.bool,.bool,.bool,.bool,.data [.int .i64],.int .i64,.int .i64],.pdc [.int .i64] 0 [.int .i64],.pdc F'.sh 0 [.int .i64,.int .i64,.int .i64,.int .i64]]
noncomputable def z_p:CallF R:=callHook l_i o_M u_a
abbrev o_N:Prop:=Good1 (R:=V) Tryz.prog 112 z_p
noncomputable def o_O (l:List At):Bool:=match l with
  | .r a::[]=>N_e a
  | _=>false
noncomputable def u_b (l:List At):V:=match l with
  | .r a::[]=>(V.data N'.sh (V_3 a))
  | _=>.undef
abbrev l_j:List T:=[.data [.sl N'.sh]]
noncomputable def z_q:CallF R:=callHook l_j o_O u_b
abbrev o_P:Prop:=Good1 (R:=V) Tryz.prog 114 z_q
noncomputable def o_Q (l:List At):Bool:=match l with
  | .i _::.i _::.i _::.i _::.i _::.i _::.r _::.i _::.i _::.i _::.i _::.i _::.r _::.i _::.i _::.b _::.b _::.b _::.b _::.b _::.b _::.b _::.b _::.r _::.i _::.i _::.i _::.i _::.i _::.i _::.i _::[]=>true
  | _=>false
noncomputable def u_c (l:List At):V:=match l with
  | .i a::.i b::.i c::.i d::.i e::.i f::.r g::.i i::.i j::.i m::.i o::.i p::.r q::.i r::.i s::.b t::.b u::.b v::.b w::.b y::.b z::.b A::.b B::.r D::.i E::.i F::.i H::.i I::.i J::.i K::.i L::[]=>(V.data N'.sh (M_y (D'.mk (F'.mk a b c d) e f g) (C'.mk i j m o p q r s (K'.mk t u v w y) z A B D E F) H (G'.mk I J K L)))
  | _=>.undef
abbrev l_k:List T:=[.agg D'.ts,.agg C'.ts,.int .i64,.agg F'.ts]
noncomputable def z_r:CallF R:=callHook l_k o_Q u_c
abbrev r_o:Prop:=Good1 (R:=V) Tryz.prog 83 z_r
noncomputable def o_R (l:List At):Bool:=match l with
  | .i _::.i _::.i _::.i _::.i _::.i _::.r _::.i _::.i _::.i _::.i _::.i _::.r _::.i _::.i _::.b _::.b _::.b _::.b _::.b _::.b _::.b _::.b _::.r _::.i _::.i _::.i _::.i _::.i _::.i _::.i _::[]=>true
  | _=>false
noncomputable def u_d (l:List At):V:=match l with
  | .i a::.i b::.i c::.i d::.i e::.i f::.r g::.i i::.i j::.i m::.i o::.i p::.r q::.i r::.i s::.b t::.b u::.b v::.b w::.b y::.b z::.b A::.b B::.r D::.i E::.i F::.i H::.i I::.i J::.i K::.i L::[]=>(V.data N'.sh (f_O (D'.mk (F'.mk a b c d) e f g) (C'.mk i j m o p q r s (K'.mk t u v w y) z A B D E F) H (G'.mk I J K L)))
  | _=>.undef
abbrev l_l:List T:=[.agg D'.ts,.agg C'.ts,.int .i64,.agg F'.ts]
noncomputable def z_s:CallF R:=callHook l_l o_R u_d
abbrev u_e:Prop:=Good1 (R:=V) Tryz.prog 48 z_s
noncomputable def o_S (l:List At):Bool:=match l with
  | .i a::.i b::.i c::.i d::.i e::.i f::.i g::.i i::.i j::.i m::.i o::.r p::.i q::.i r::.b s::.b t::.b u::.b v::.b w::.b y::.b z::.b A::.r B::.i D::.i E::.i F::.i H::.i I::.i J::.i K::.i L::.r M::.i N::.i O::.i Q::.i S::.i U::.i W::.r X::.i Y::[]=>R_i a (G'.mk b c d e) f (C'.mk g i j m o p q r (K'.mk s t u v w) y z A B D E) (O'.mk F H (F'.mk I J K L)) M (D'.mk (F'.mk N O Q S) U W X) Y
  | _=>false
noncomputable def u_f (l:List At):V:=match l with
  | .i a::.i b::.i c::.i d::.i e::.i f::.i g::.i i::.i j::.i m::.i o::.r p::.i q::.i r::.b s::.b t::.b u::.b v::.b w::.b y::.b z::.b A::.r B::.i D::.i E::.i F::.i H::.i I::.i J::.i K::.i L::.r M::.i N::.i O::.i Q::.i S::.i U::.i W::.r X::.i Y::[]=>(V.bool (m_m a (G'.mk b c d e) f (C'.mk g i j m o p q r (K'.mk s t u v w) y z A B D E) (O'.mk F H (F'.mk I J K L)) M (D'.mk (F'.mk N O Q S) U W X) Y))
  | _=>.undef
abbrev l_m:List T:=[.int .i64,.agg F'.ts,.pdc [.int .i64] 0 [.int .i64],.pdc C'.sh 0 [.int .i64,.int .i64,.int .i64,.int .i64,.int .i64,.data U'.sh,.int .i64,.int .i64,.bool,.bool,.bool,.bool,.bool,.bool,.bool,.bool,.data [.int .i64],.int .i64,.int .i64],.pdc O'.sh 0 [.int .i64,.int .i64,.int .i64,.int .i64,.int .i64,.int .i64],.pdc [.sl F'.sh] 0 [.data F'.sh],.pdc D'.sh 0 [.int .i64,.int .i64,.int .i64,.int .i64,.int .i64,.int .i64,.data H'.sh],.pdc [.int .i64] 0 [.int .i64]]
noncomputable def z_t:CallF R:=callHook l_m o_S u_f
abbrev r_p:Prop:=Good1 (R:=V) Tryz.prog 44 z_t
noncomputable def o_T (l:List At):Bool:=match l with
  | .i a::.i b::.i c::.i d::.i e::.i f::.r g::.i i::.i j::.i m::.i o::.i p::.r q::.i r::.i s::.b t::.b u::.b v::.b w::.b y::.b z::.b A::.b B::.r D::.i E::.i F::.r H::.i I::.i J::.i K::.i L::.i M::.i N::[]=>K_M (D'.mk (F'.mk a b c d) e f g) (C'.mk i j m o p q r s (K'.mk t u v w y) z A B D E F) H (O'.mk I J (F'.mk K L M N))
  | _=>false
noncomputable def u_g (l:List At):V:=match l with
  | .i a::.i b::.i c::.i d::.i e::.i f::.r g::.i i::.i j::.i m::.i o::.i p::.r q::.i r::.i s::.b t::.b u::.b v::.b w::.b y::.b z::.b A::.b B::.r D::.i E::.i F::.r H::.i I::.i J::.i K::.i L::.i M::.i N::[]=>(V.tup [(V.data U'.sh (f_P (D'.mk (F'.mk a b c d) e f g) (C'.mk i j m o p q r s (K'.mk t u v w y) z A B D E F) H (O'.mk I J (F'.mk K L M N))).1),(V.int .i64 (f_P (D'.mk (F'.mk a b c d) e f g) (C'.mk i j m o p q r s (K'.mk t u v w y) z A B D E F) H (O'.mk I J (F'.mk K L M N))).2)])
  | _=>.undef
abbrev l_n:List T:=[.agg D'.ts,.agg C'.ts,.data V'.sh,.agg O'.ts]
noncomputable def z_u:CallF R:=callHook l_n o_T u_g
abbrev r_q:Prop:=Good1 (R:=V) Tryz.prog 6 z_u
noncomputable def o_U (l:List At):Bool:=match l with
  | .i a::.i b::.i c::.i d::.i e::.i f::.r g::.i i::.i j::.i m::.i o::.i p::.r q::.i r::.i s::.b t::.b u::.b v::.b w::.b y::.b z::.b A::.b B::.r D::.i E::.i F::.i H::.i I::.i J::.i K::.i L::.i M::[]=>R_j (D'.mk (F'.mk a b c d) e f g) (C'.mk i j m o p q r s (K'.mk t u v w y) z A B D E F) (O'.mk H I (F'.mk J K L M))
  | _=>false
noncomputable def u_h (l:List At):V:=match l with
  | .i a::.i b::.i c::.i d::.i e::.i f::.r g::.i i::.i j::.i m::.i o::.i p::.r q::.i r::.i s::.b t::.b u::.b v::.b w::.b y::.b z::.b A::.b B::.r D::.i E::.i F::.i H::.i I::.i J::.i K::.i L::.i M::[]=>(V.tup [(D'.v (g_s (D'.mk (F'.mk a b c d) e f g) (C'.mk i j m o p q r s (K'.mk t u v w y) z A B D E F) (O'.mk H I (F'.mk J K L M))).1),(V.int .i64 (g_s (D'.mk (F'.mk a b c d) e f g) (C'.mk i j m o p q r s (K'.mk t u v w y) z A B D E F) (O'.mk H I (F'.mk J K L M))).2)])
  | _=>.undef
abbrev l_o:List T:=[.agg D'.ts,.agg C'.ts,.agg O'.ts]
noncomputable def z_v:CallF R:=callHook l_o o_U u_h
abbrev r_r:Prop:=Good1 (R:=V) Tryz.prog 20 z_v
noncomputable def o_V (l:List At):Bool:=match l with
  | .i _::.i _::.i _::.i _::.i _::.i _::.r _::.i _::.i _::.i _::.i _::.i _::.r _::.i _::.i _::.b _::.b _::.b _::.b _::.b _::.b _::.b _::.b _::.r _::.i _::.i _::.i _::[]=>true
  | _=>false
noncomputable def u_i (l:List At):V:=match l with
  | .i a::.i b::.i c::.i d::.i e::.i f::.r g::.i i::.i j::.i m::.i o::.i p::.r q::.i r::.i s::.b t::.b u::.b v::.b w::.b y::.b z::.b A::.b B::.r D::.i E::.i F::.i H::[]=>(V.int .i64 (j_G (D'.mk (F'.mk a b c d) e f g) (C'.mk i j m o p q r s (K'.mk t u v w y) z A B D E F) H))
  | _=>.undef
abbrev l_p:List T:=[.agg D'.ts,.agg C'.ts,.int .i64]
noncomputable def z_w:CallF R:=callHook l_p o_V u_i
abbrev r_s:Prop:=Good1 (R:=V) Tryz.prog 120 z_w
noncomputable def o_W (l:List At):Bool:=match l with
  | .i _::.i _::.i _::.i _::.i _::.i _::.i _::.i _::.i _::.i _::.i _::.i _::[]=>true
  | _=>false
noncomputable def u_j (l:List At):V:=match l with
  | .i a::.i b::.i c::.i d::.i e::.i f::.i g::.i i::.i j::.i m::.i o::.i p::[]=>(V.bool (V_g (Y'.mk a b c d e f) (Y'.mk g i j m o p)))
  | _=>.undef
abbrev l_q:List T:=[.agg O'.ts,.agg O'.ts]
noncomputable def z_x:CallF R:=callHook l_q o_W u_j
abbrev r_t:Prop:=Good1 (R:=V) Tryz.prog 155 z_x
noncomputable def o_X (l:List At):Bool:=match l with
  | .r a::.r b::[]=>O_S a b
  | _=>false
noncomputable def u_k (l:List At):V:=match l with
  | .r a::.r b::[]=>(V.data Z'.sh (m_n a b))
  | _=>.undef
abbrev l_r:List T:=[.data Z'.sh,.data Z'.sh]
noncomputable def z_y:CallF R:=callHook l_r o_X u_k
abbrev m_E:Prop:=Good1 (R:=V) Tryz.prog 136 z_y
noncomputable def H_E (l:List At):Bool:=match l with
  | .r a::[]=>B_K a
  | _=>false
noncomputable def H_F (l:List At):V:=match l with
  | .r a::[]=>(V.data Z'.sh (A_h a))
  | _=>.undef
abbrev F_A:List T:=[.data Z'.sh]
noncomputable def K_N:CallF R:=callHook F_A H_E H_F
abbrev C_X:Prop:=Good1 (R:=V) Tryz.prog 121 K_N
noncomputable def D_d (n:Nat) (l:List At):Bool:=match l with
  | .r a::[]=>Nat.blt (List.length a) n
  | _=>false
noncomputable def D_8 (n:Nat):CallF R:=callHook F_A (D_d n) H_F
noncomputable def o_Y (l:List At):Bool:=match l with
  | .i _::.i _::.i _::.i _::.i _::.i _::.r _::.i _::.i _::[]=>true
  | _=>false
noncomputable def u_l (l:List At):V:=match l with
  | .i a::.i b::.i c::.i d::.i e::.i f::.r g::.i i::.i j::[]=>(F'.v (f_Q (D'.mk (F'.mk a b c d) e f g) i j))
  | _=>.undef
abbrev l_s:List T:=[.agg D'.ts,.int .i64,.int .i64]
noncomputable def r_u:CallF R:=callHook l_s o_Y u_l
abbrev o_Z:Prop:=Good1 (R:=V) Tryz.prog 97 r_u
noncomputable def o_0 (l:List At):Bool:=match l with
  | .i _::.i _::.i _::.i _::.i _::.i _::[]=>true
  | _=>false
noncomputable def u_m (l:List At):V:=match l with
  | .i a::.i b::.i c::.i d::.i e::.i f::[]=>(V.tup [(V.int .i64 (V_4 (F'.mk a b c d) e f).1),(V.int .i64 (V_4 (F'.mk a b c d) e f).2)])
  | _=>.undef
abbrev l_t:List T:=[.agg F'.ts,.int .i64,.int .i64]
noncomputable def r_v:CallF R:=callHook l_t o_0 u_m
abbrev m_F:Prop:=Good1 (R:=V) Tryz.prog 139 r_v
noncomputable def o_1 (l:List At):Bool:=match l with
  | .i _::.i _::.i _::.i _::.i _::.i _::.i _::.i _::.i _::.r _::.i _::.i _::.b _::.b _::.b _::.b _::.b _::.b _::.b _::.b _::.r _::.i _::.i _::.i _::[]=>true
  | _=>false
noncomputable def u_n (l:List At):V:=match l with
  | .i a::.i b::.i c::.i d::.i e::.i f::.i g::.i i::.i j::.r m::.i o::.i p::.b q::.b r::.b s::.b t::.b u::.b v::.b w::.b y::.r z::.i A::.i B::.i D::[]=>(V.tup [(F'.v (j_H (F'.mk a b c d) (C'.mk e f g i j m o p (K'.mk q r s t u) v w y z A B) D).1),(V.int .i64 (j_H (F'.mk a b c d) (C'.mk e f g i j m o p (K'.mk q r s t u) v w y z A B) D).2.1),(V.int .i64 (j_H (F'.mk a b c d) (C'.mk e f g i j m o p (K'.mk q r s t u) v w y z A B) D).2.2)])
  | _=>.undef
abbrev l_u:List T:=[.agg F'.ts,.agg C'.ts,.int .i64]
noncomputable def z_z:CallF R:=callHook l_u o_1 u_n
abbrev u_o:Prop:=Good1 (R:=V) Tryz.prog 123 z_z
noncomputable def o_2 (l:List At):Bool:=match l with
  | .i _::.i _::.i _::.i _::.i _::.i _::.r _::.i _::.i _::.i _::.i _::.i _::.r _::.i _::.i _::.b _::.b _::.b _::.b _::.b _::.b _::.b _::.b _::.r _::.i _::.i _::.i _::.i _::.i _::[]=>true
  | _=>false
noncomputable def u_p (l:List At):V:=match l with
  | .i a::.i b::.i c::.i d::.i e::.i f::.r g::.i i::.i j::.i m::.i o::.i p::.r q::.i r::.i s::.b t::.b u::.b v::.b w::.b y::.b z::.b A::.b B::.r D::.i E::.i F::.i H::.i I::.i J::[]=>(V.tup [(F'.v (H_e (D'.mk (F'.mk a b c d) e f g) (C'.mk i j m o p q r s (K'.mk t u v w y) z A B D E F) H I J).1),(V.int .i64 (H_e (D'.mk (F'.mk a b c d) e f g) (C'.mk i j m o p q r s (K'.mk t u v w y) z A B D E F) H I J).2.1),(V.int .i64 (H_e (D'.mk (F'.mk a b c d) e f g) (C'.mk i j m o p q r s (K'.mk t u v w y) z A B D E F) H I J).2.2)])
  | _=>.undef
abbrev l_v:List T:=[.agg D'.ts,.agg C'.ts,.int .i64,.int .i64,.int .i64]
noncomputable def u_q:CallF R:=callHook l_v o_2 u_p
abbrev o_3:Prop:=Good1 (R:=V) Tryz.prog 95 u_q
noncomputable def o_4 (l:List At):Bool:=match l with
  | .i _::.i _::.i _::.i _::.i _::.i _::.i _::[]=>true
  | _=>false
noncomputable def u_r (l:List At):V:=match l with
  | .i a::.i b::.i c::.i d::.i e::.i f::.i g::[]=>(V.tup [(V.int .i64 (f_R (F'.mk a b c d) e f g).1),(V.int .i64 (f_R (F'.mk a b c d) e f g).2.1),(V.bool (f_R (F'.mk a b c d) e f g).2.2)])
  | _=>.undef
abbrev l_w:List T:=[.agg F'.ts,.int .i64,.int .i64,.int .i64]
noncomputable def u_s:CallF R:=callHook l_w o_4 u_r
abbrev r_w:Prop:=Good1 (R:=V) Tryz.prog 157 u_s
noncomputable def o_5 (l:List At):Bool:=match l with
  | .i _::.i _::.i _::.i _::[]=>true
  | _=>false
noncomputable def u_t (l:List At):V:=match l with
  | .i a::.i b::.i c::.i d::[]=>(F'.v (f_S a b c d))
  | _=>.undef
abbrev l_x:List T:=[.int .i64,.int .i64,.int .i64,.int .i64]
noncomputable def u_u:CallF R:=callHook l_x o_5 u_t
abbrev r_x:Prop:=Good1 (R:=V) Tryz.prog 158 u_u
noncomputable def o_6 (l:List At):Bool:=match l with
  | .i _::.i _::.i _::.i _::.i _::.i _::.i _::[]=>true
  | _=>false
noncomputable def u_v (l:List At):V:=match l with
  | .i a::.i b::.i c::.i d::.i e::.i f::.i g::[]=>(V.tup [(F'.v (V_5 (F'.mk a b c d) e f g).1),(V.bool (V_5 (F'.mk a b c d) e f g).2)])
  | _=>.undef
abbrev l_y:List T:=[.agg F'.ts,.int .i64,.int .i64,.int .i64]
noncomputable def u_w:CallF R:=callHook l_y o_6 u_v
abbrev m_G:Prop:=Good1 (R:=V) Tryz.prog 156 u_w
noncomputable def o_7 (l:List At):Bool:=match l with
  | .i a::.i b::.i c::.i d::.i e::.i f::.r g::.i i::.i j::.i m::.i o::.i p::.r q::.i r::.i s::.b t::.b u::.b v::.b w::.b y::.b z::.b A::.b B::.r D::.i E::.i F::.i H::.i I::.i J::.i K::.i L::.i M::.i N::[]=>O_T (D'.mk (F'.mk a b c d) e f g) (C'.mk i j m o p q r s (K'.mk t u v w y) z A B D E F) (F'.mk H I J K) L M N
  | _=>false
noncomputable def u_x (l:List At):V:=match l with
  | .i a::.i b::.i c::.i d::.i e::.i f::.r g::.i i::.i j::.i m::.i o::.i p::.r q::.i r::.i s::.b t::.b u::.b v::.b w::.b y::.b z::.b A::.b B::.r D::.i E::.i F::.i H::.i I::.i J::.i K::.i L::.i M::.i N::[]=>(X'.v (m_o (D'.mk (F'.mk a b c d) e f g) (C'.mk i j m o p q r s (K'.mk t u v w y) z A B D E F) (F'.mk H I J K) L M N))
  | _=>.undef
abbrev l_z:List T:=[.agg D'.ts,.agg C'.ts,.agg F'.ts,.int .i64,.int .i64,.int .i64]
noncomputable def z_A:CallF R:=callHook l_z o_7 u_x
abbrev o_8:Prop:=Good1 (R:=V) Tryz.prog 137 z_A
noncomputable def o_9 (l:List At):Bool:=match l with
  | .i _::.i _::.i _::.i _::.i _::.i _::.i _::[]=>true
  | _=>false
noncomputable def u_y (l:List At):V:=match l with
  | .i a::.i b::.i c::.i d::.i e::.i f::.i g::[]=>(Y'.v (q_N a (G'.mk b c d e) (X'.mk f g)))
  | _=>.undef
abbrev l_A:List T:=[.int .i64,.agg F'.ts,.agg U'.ts]
noncomputable def z_B:CallF R:=callHook l_A o_9 u_y
abbrev r_y:Prop:=Good1 (R:=V) Tryz.prog 138 z_B
noncomputable def p_a (l:List At):Bool:=match l with
  | .i a::.i b::.i c::.i d::.i e::.i f::.r g::.i i::.i j::.i m::.i o::.i p::.r q::.i r::.i s::.b t::.b u::.b v::.b w::.b y::.b z::.b A::.b B::.r D::.i E::.i F::.i H::[]=>O_U (D'.mk (F'.mk a b c d) e f g) (C'.mk i j m o p q r s (K'.mk t u v w y) z A B D E F) H
  | _=>false
noncomputable def u_z (l:List At):V:=match l with
  | .i a::.i b::.i c::.i d::.i e::.i f::.r g::.i i::.i j::.i m::.i o::.i p::.r q::.i r::.i s::.b t::.b u::.b v::.b w::.b y::.b z::.b A::.b B::.r D::.i E::.i F::.i H::[]=>(V.data Z'.sh (R_k (D'.mk (F'.mk a b c d) e f g) (C'.mk i j m o p q r s (K'.mk t u v w y) z A B D E F) H))
  | _=>.undef
abbrev l_B:List T:=[.agg D'.ts,.agg C'.ts,.int .i64]
noncomputable def z_C:CallF R:=callHook l_B p_a u_z
abbrev p_b:Prop:=Good1 (R:=V) Tryz.prog 122 z_C
noncomputable def p_c (l:List At):Bool:=match l with
  | .i _::.i _::.i _::.i _::.i _::.i _::.r _::.i _::.i _::.i _::.i _::.i _::.r _::.i _::.i _::.b _::.b _::.b _::.b _::.b _::.b _::.b _::.b _::.r _::.i _::.i _::.i _::[]=>true
  | _=>false
noncomputable def u_A (l:List At):V:=match l with
  | .i a::.i b::.i c::.i d::.i e::.i f::.r g::.i i::.i j::.i m::.i o::.i p::.r q::.i r::.i s::.b t::.b u::.b v::.b w::.b y::.b z::.b A::.b B::.r D::.i E::.i F::.i H::[]=>(V.tup [(V.data F'.sh (P_R (D'.mk (F'.mk a b c d) e f g) (C'.mk i j m o p q r s (K'.mk t u v w y) z A B D E F) H).1),(V.int .i64 (P_R (D'.mk (F'.mk a b c d) e f g) (C'.mk i j m o p q r s (K'.mk t u v w y) z A B D E F) H).2)])
  | _=>.undef
abbrev l_C:List T:=[.agg D'.ts,.agg C'.ts,.int .i64]
noncomputable def z_D:CallF R:=callHook l_C p_c u_A
abbrev p_d:Prop:=Good1 (R:=V) Tryz.prog 94 z_D
noncomputable def p_e (l:List At):Bool:=match l with
  | .i _::.i _::.i _::.i _::.i _::.i _::.r _::.i _::.i _::.i _::.i _::.i _::.r _::.i _::.i _::.b _::.b _::.b _::.b _::.b _::.b _::.b _::.b _::.r _::.i _::.i _::[]=>true
  | _=>false
noncomputable def u_B (l:List At):V:=match l with
  | .i a::.i b::.i c::.i d::.i e::.i f::.r g::.i i::.i j::.i m::.i o::.i p::.r q::.i r::.i s::.b t::.b u::.b v::.b w::.b y::.b z::.b A::.b B::.r D::.i E::.i F::[]=>(V.data [.sl F'.sh] (f_T (D'.mk (F'.mk a b c d) e f g) (C'.mk i j m o p q r s (K'.mk t u v w y) z A B D E F)))
  | _=>.undef
abbrev l_D:List T:=[.agg D'.ts,.agg C'.ts]
noncomputable def z_E:CallF R:=callHook l_D p_e u_B
abbrev p_f:Prop:=Good1 (R:=V) Tryz.prog 53 z_E
noncomputable def p_g (l:List At):Bool:=match l with
  | .r a::.i b::.i c::.i d::.i e::[]=>V_i a (G'.mk b c d e)
  | _=>false
noncomputable def u_C (l:List At):V:=match l with
  | .r a::.i b::.i c::.i d::.i e::[]=>(V.int .i64 (h_F a (G'.mk b c d e)))
  | _=>.undef
abbrev l_E:List T:=[.data F'.sh,.agg F'.ts]
noncomputable def z_F:CallF R:=callHook l_E p_g u_C
abbrev p_h:Prop:=Good1 (R:=V) Tryz.prog 54 z_F
noncomputable def p_i (l:List At):Bool:=match l with
  | .i a::.i b::.i c::.i d::.i e::.i f::.r g::.i i::.i j::.i m::.i o::.i p::.r q::.i r::.i s::.b t::.b u::.b v::.b w::.b y::.b z::.b A::.b B::.r D::.i E::.i F::.r H::[]=>V_j (D'.mk (F'.mk a b c d) e f g) (C'.mk i j m o p q r s (K'.mk t u v w y) z A B D E F) H
  | _=>false
noncomputable def u_D (l:List At):V:=match l with
  | .i a::.i b::.i c::.i d::.i e::.i f::.r g::.i i::.i j::.i m::.i o::.i p::.r q::.i r::.i s::.b t::.b u::.b v::.b w::.b y::.b z::.b A::.b B::.r D::.i E::.i F::.r H::[]=>(V.int .i64 (V_6 (D'.mk (F'.mk a b c d) e f g) (C'.mk i j m o p q r s (K'.mk t u v w y) z A B D E F) H))
  | _=>.undef
abbrev l_F:List T:=[.agg D'.ts,.agg C'.ts,.data V'.sh]
noncomputable def z_G:CallF R:=callHook l_F p_i u_D
abbrev p_j:Prop:=Good1 (R:=V) Tryz.prog 21 z_G
noncomputable def p_k (l:List At):Bool:=match l with
  | .i _::.i _::.i _::.i _::.i _::.r _::.i _::.i _::.b _::.b _::.b _::.b _::.b _::.b _::.b _::.b _::.r _::.i _::.i _::.i _::.i _::.i _::.i _::.i _::.i _::[]=>true
  | _=>false
noncomputable def u_E (l:List At):V:=match l with
  | .i a::.i b::.i c::.i d::.i e::.r f::.i g::.i i::.b j::.b m::.b o::.b p::.b q::.b r::.b s::.b t::.r u::.i v::.i w::.i y::.i z::.i A::.i B::.i D::.i E::[]=>(V.int .i64 (j_I (C'.mk a b c d e f g i (K'.mk j m o p q) r s t u v w) (O'.mk y z (F'.mk A B D E))))
  | _=>.undef
abbrev l_G:List T:=[.agg C'.ts,.agg O'.ts]
noncomputable def z_H:CallF R:=callHook l_G p_k u_E
abbrev r_z:Prop:=Good1 (R:=V) Tryz.prog 55 z_H
noncomputable def p_l (l:List At):Bool:=match l with
  | .i _::.i _::[]=>true
  | _=>false
noncomputable def u_F (l:List At):V:=match l with
  | .i a::.i b::[]=>(V.data [.int .i64] (m_Z a b))
  | _=>.undef
abbrev l_H:List T:=[.int .i64,.int .i64]
noncomputable def z_I:CallF R:=callHook l_H p_l u_F
abbrev r_A:Prop:=Good1 (R:=V) Tryz.prog 124 z_I
noncomputable def p_m (l:List At):Bool:=match l with
  | .i _::.i _::.i _::.i _::.i _::.i _::.i _::.i _::.i _::.i _::.i _::.i _::[]=>true
  | _=>false
noncomputable def u_G (l:List At):V:=match l with
  | .i a::.i b::.i c::.i d::.i e::.i f::.i g::.i i::.i j::.i m::.i o::.i p::[]=>(V.tup [(F'.v (h_G (F'.mk a b c d) (F'.mk e f g i) j m o p).1),(V.bool (h_G (F'.mk a b c d) (F'.mk e f g i) j m o p).2)])
  | _=>.undef
abbrev l_I:List T:=[.agg F'.ts,.agg F'.ts,.int .i64,.int .i64,.int .i64,.int .i64]
noncomputable def z_J:CallF R:=callHook l_I p_m u_G
abbrev u_H:Prop:=Good1 (R:=V) Tryz.prog 140 z_J
noncomputable def p_n (l:List At):Bool:=match l with
  | .i _::.i _::.i _::.i _::.i _::.i _::[]=>true
  | _=>false
noncomputable def u_I (l:List At):V:=match l with
  | .i a::.i b::.i c::.i d::.i e::.i f::[]=>(V.tup [(V.int .i64 (f_U (F'.mk a b c d) e f).1),(V.int .i64 (f_U (F'.mk a b c d) e f).2.1),(V.data F'.sh (f_U (F'.mk a b c d) e f).2.2)])
  | _=>.undef
abbrev l_J:List T:=[.agg F'.ts,.int .i64,.int .i64]
noncomputable def z_K:CallF R:=callHook l_J p_n u_I
abbrev r_B:Prop:=Good1 (R:=V) Tryz.prog 141 z_K
noncomputable def p_o (l:List At):Bool:=match l with
  | .i _::.i _::.i _::.i _::.i _::.i _::.i _::.i _::.i _::.r _::.i _::.i _::.b _::.b _::.b _::.b _::.b _::.b _::.b _::.b _::.r _::.i _::.i _::.i _::.i _::.i _::[]=>true
  | _=>false
noncomputable def u_J (l:List At):V:=match l with
  | .i a::.i b::.i c::.i d::.i e::.i f::.i g::.i i::.i j::.r m::.i o::.i p::.b q::.b r::.b s::.b t::.b u::.b v::.b w::.b y::.r z::.i A::.i B::.i D::.i E::.i F::[]=>(V.tup [(V.int .i64 (c_B (F'.mk a b c d) (C'.mk e f g i j m o p (K'.mk q r s t u) v w y z A B) D E F).1),(V.int .i64 (c_B (F'.mk a b c d) (C'.mk e f g i j m o p (K'.mk q r s t u) v w y z A B) D E F).2.1),(V.data F'.sh (c_B (F'.mk a b c d) (C'.mk e f g i j m o p (K'.mk q r s t u) v w y z A B) D E F).2.2)])
  | _=>.undef
abbrev l_K:List T:=[.agg F'.ts,.agg C'.ts,.int .i64,.int .i64,.int .i64]
noncomputable def z_L:CallF R:=callHook l_K p_o u_J
abbrev r_C:Prop:=Good1 (R:=V) Tryz.prog 125 z_L
noncomputable def p_p (l:List At):Bool:=match l with
  | .i _::.i _::.i _::.i _::.i _::.i _::.i _::.i _::.i _::.r _::.i _::.i _::.b _::.b _::.b _::.b _::.b _::.b _::.b _::.b _::.r _::.i _::.i _::.i _::.i _::.i _::[]=>true
  | _=>false
noncomputable def u_K (l:List At):V:=match l with
  | .i a::.i b::.i c::.i d::.i e::.i f::.i g::.i i::.i j::.r m::.i o::.i p::.b q::.b r::.b s::.b t::.b u::.b v::.b w::.b y::.r z::.i A::.i B::.i D::.i E::.i F::[]=>(V.data N'.sh (j_J (F'.mk a b c d) (C'.mk e f g i j m o p (K'.mk q r s t u) v w y z A B) D E F))
  | _=>.undef
abbrev l_L:List T:=[.agg F'.ts,.agg C'.ts,.int .i64,.int .i64,.int .i64]
noncomputable def z_M:CallF R:=callHook l_L p_p u_K
abbrev r_D:Prop:=Good1 (R:=V) Tryz.prog 96 z_M
noncomputable def p_q (l:List At):Bool:=match l with
  | .i _::.i _::.i _::.i _::.i _::.i _::.r _::.i _::.i _::.i _::.i _::.i _::.r _::.i _::.i _::.b _::.b _::.b _::.b _::.b _::.b _::.b _::.b _::.r _::.i _::.i _::.i _::.i _::.i _::.i _::.i _::[]=>true
  | _=>false
noncomputable def u_L (l:List At):V:=match l with
  | .i a::.i b::.i c::.i d::.i e::.i f::.r g::.i i::.i j::.i m::.i o::.i p::.r q::.i r::.i s::.b t::.b u::.b v::.b w::.b y::.b z::.b A::.b B::.r D::.i E::.i F::.i H::.i I::.i J::.i K::.i L::[]=>(V.data N'.sh (f_V (D'.mk (F'.mk a b c d) e f g) (C'.mk i j m o p q r s (K'.mk t u v w y) z A B D E F) H (G'.mk I J K L)))
  | _=>.undef
abbrev l_M:List T:=[.agg D'.ts,.agg C'.ts,.int .i64,.agg F'.ts]
noncomputable def z_N:CallF R:=callHook l_M p_q u_L
abbrev r_E:Prop:=Good1 (R:=V) Tryz.prog 56 z_N
noncomputable def p_r (l:List At):Bool:=match l with
  | .i _::[]=>true
  | _=>false
noncomputable def u_M (l:List At):V:=match l with
  | .i a::[]=>(V.bool (m_0 a))
  | _=>.undef
abbrev l_N:List T:=[.int .i64]
noncomputable def z_O:CallF R:=callHook l_N p_r u_M
abbrev r_F:Prop:=Good1 (R:=V) Tryz.prog 142 z_O
noncomputable def p_s (l:List At):Bool:=match l with
  | .i _::[]=>true
  | _=>false
noncomputable def u_N (l:List At):V:=match l with
  | .i a::[]=>(V.int .i64 (r_Y a))
  | _=>.undef
abbrev l_O:List T:=[.int .i64]
noncomputable def z_P:CallF R:=callHook l_O p_s u_N
abbrev r_G:Prop:=Good1 (R:=V) Tryz.prog 143 z_P
noncomputable def p_t (l:List At):Bool:=match l with
  | .i _::.i _::.i _::.i _::.i _::.i _::.i _::.i _::.i _::.i _::.i _::[]=>true
  | _=>false
noncomputable def u_O (l:List At):V:=match l with
  | .i a::.i b::.i c::.i d::.i e::.i f::.i g::.i i::.i j::.i m::.i o::[]=>(V.data F'.sh (j_K (F'.mk a b c d) e f (F'.mk g i j m) o))
  | _=>.undef
abbrev l_P:List T:=[.agg F'.ts,.int .i64,.int .i64,.agg F'.ts,.int .i64]
noncomputable def z_Q:CallF R:=callHook l_P p_t u_O
abbrev r_H:Prop:=Good1 (R:=V) Tryz.prog 126 z_Q
noncomputable def p_u (l:List At):Bool:=match l with
  | .i a::.i b::.i c::.i d::.i e::.i f::.r g::.i i::.i j::.i m::.i o::.i p::.r q::.i r::.i s::.b t::.b u::.b v::.b w::.b y::.b z::.b A::.b B::.r D::.i E::.i F::.i H::.i I::.i J::.i K::.i L::.i M::.i N::.i O::[]=>N_f (D'.mk (F'.mk a b c d) e f g) (C'.mk i j m o p q r s (K'.mk t u v w y) z A B D E F) H I (O'.mk J K (F'.mk L M N O))
  | _=>false
noncomputable def u_P (l:List At):V:=match l with
  | .i a::.i b::.i c::.i d::.i e::.i f::.r g::.i i::.i j::.i m::.i o::.i p::.r q::.i r::.i s::.b t::.b u::.b v::.b w::.b y::.b z::.b A::.b B::.r D::.i E::.i F::.i H::.i I::.i J::.i K::.i L::.i M::.i N::.i O::[]=>(V.data F'.sh (j_L (D'.mk (F'.mk a b c d) e f g) (C'.mk i j m o p q r s (K'.mk t u v w y) z A B D E F) H I (O'.mk J K (F'.mk L M N O))))
  | _=>.undef
abbrev l_Q:List T:=[.agg D'.ts,.agg C'.ts,.int .i64,.int .i64,.agg O'.ts]
noncomputable def z_R:CallF R:=callHook l_Q p_u u_P
abbrev u_Q:Prop:=Good1 (R:=V) Tryz.prog 98 z_R
noncomputable def p_v (l:List At):Bool:=match l with
  | .i a::.i b::.i c::.i d::.i e::.i f::.r g::.i i::.i j::.i m::.i o::.i p::.r q::.i r::.i s::.b t::.b u::.b v::.b w::.b y::.b z::.b A::.b B::.r D::.i E::.i F::.i H::.i I::.i J::.i K::.i L::.i M::.i N::.i O::.i Q::.i S::.i U::.i W::.i X::.i Y::.i Z::.i a0::[]=>O_V (D'.mk (F'.mk a b c d) e f g) (C'.mk i j m o p q r s (K'.mk t u v w y) z A B D E F) H (N'.mk I J K L M (F'.mk N O Q S)) (O'.mk U W (F'.mk X Y Z a0))
  | _=>false
noncomputable def u_R (l:List At):V:=match l with
  | .i a::.i b::.i c::.i d::.i e::.i f::.r g::.i i::.i j::.i m::.i o::.i p::.r q::.i r::.i s::.b t::.b u::.b v::.b w::.b y::.b z::.b A::.b B::.r D::.i E::.i F::.i H::.i I::.i J::.i K::.i L::.i M::.i N::.i O::.i Q::.i S::.i U::.i W::.i X::.i Y::.i Z::.i a0::[]=>(V.bool (b_K (D'.mk (F'.mk a b c d) e f g) (C'.mk i j m o p q r s (K'.mk t u v w y) z A B D E F) H (N'.mk I J K L M (F'.mk N O Q S)) (O'.mk U W (F'.mk X Y Z a0))))
  | _=>.undef
abbrev l_R:List T:=[.agg D'.ts,.agg C'.ts,.int .i64,.agg N'.ts,.agg O'.ts]
noncomputable def z_S:CallF R:=callHook l_R p_v u_R
abbrev r_I:Prop:=Good1 (R:=V) Tryz.prog 57 z_S
noncomputable def p_w (l:List At):Bool:=match l with
  | .i a::.i b::.i c::.i d::.i e::.i f::.r g::.i i::.i j::.i m::.i o::.i p::.r q::.i r::.i s::.b t::.b u::.b v::.b w::.b y::.b z::.b A::.b B::.r D::.i E::.i F::.i H::.i I::.i J::.i K::.i L::.i M::.i N::.i O::.i Q::.i S::.i U::[]=>O_W (D'.mk (F'.mk a b c d) e f g) (C'.mk i j m o p q r s (K'.mk t u v w y) z A B D E F) H (G'.mk I J K L) (O'.mk M N (F'.mk O Q S U))
  | _=>false
noncomputable def u_S (l:List At):V:=match l with
  | .i a::.i b::.i c::.i d::.i e::.i f::.r g::.i i::.i j::.i m::.i o::.i p::.r q::.i r::.i s::.b t::.b u::.b v::.b w::.b y::.b z::.b A::.b B::.r D::.i E::.i F::.i H::.i I::.i J::.i K::.i L::.i M::.i N::.i O::.i Q::.i S::.i U::[]=>(V.bool (j_M (D'.mk (F'.mk a b c d) e f g) (C'.mk i j m o p q r s (K'.mk t u v w y) z A B D E F) H (G'.mk I J K L) (O'.mk M N (F'.mk O Q S U))))
  | _=>.undef
abbrev l_S:List T:=[.agg D'.ts,.agg C'.ts,.int .i64,.agg F'.ts,.agg O'.ts]
noncomputable def z_T:CallF R:=callHook l_S p_w u_S
abbrev p_x:Prop:=Good1 (R:=V) Tryz.prog 22 z_T
noncomputable def p_y (l:List At):Bool:=match l with
  | .i a::.i b::.i c::.i d::.i e::.i f::.r g::.i i::.i j::.i m::.i o::.i p::.r q::.i r::.i s::.b t::.b u::.b v::.b w::.b y::.b z::.b A::.b B::.r D::.i E::.i F::.r H::.i I::.i J::.i K::.i L::.i M::.i N::[]=>O_X (D'.mk (F'.mk a b c d) e f g) (C'.mk i j m o p q r s (K'.mk t u v w y) z A B D E F) H (O'.mk I J (F'.mk K L M N))
  | _=>false
noncomputable def u_T (l:List At):V:=match l with
  | .i a::.i b::.i c::.i d::.i e::.i f::.r g::.i i::.i j::.i m::.i o::.i p::.r q::.i r::.i s::.b t::.b u::.b v::.b w::.b y::.b z::.b A::.b B::.r D::.i E::.i F::.r H::.i I::.i J::.i K::.i L::.i M::.i N::[]=>(V.tup [(V.data U'.sh (V_k (D'.mk (F'.mk a b c d) e f g) (C'.mk i j m o p q r s (K'.mk t u v w y) z A B D E F) H (O'.mk I J (F'.mk K L M N))).1),(V.int .i64 (V_k (D'.mk (F'.mk a b c d) e f g) (C'.mk i j m o p q r s (K'.mk t u v w y) z A B D E F) H (O'.mk I J (F'.mk K L M N))).2)])
  | _=>.undef
abbrev l_T:List T:=[.agg D'.ts,.agg C'.ts,.data V'.sh,.agg O'.ts]
noncomputable def z_U:CallF R:=callHook l_T p_y u_T
abbrev r_J:Prop:=Good1 (R:=V) Tryz.prog 7 z_U
noncomputable def p_z (l:List At):Bool:=match l with
  | .r a::.r b::[]=>O_Y a b
  | _=>false
noncomputable def u_U (l:List At):V:=match l with
  | .r a::.r b::[]=>(V.bool (h_H a b))
  | _=>.undef
abbrev l_U:List T:=[.data U'.sh,.data U'.sh]
noncomputable def z_V:CallF R:=callHook l_U p_z u_U
abbrev r_K:Prop:=Good1 (R:=V) Tryz.prog 8 z_V
noncomputable def p_A (l:List At):Bool:=match l with
  | .i a::.i b::.i c::.i d::.i e::.i f::.r g::.i i::.i j::.i m::.i o::.i p::.r q::.i r::.i s::.b t::.b u::.b v::.b w::.b y::.b z::.b A::.b B::.r D::.i E::.i F::.r H::.i I::.i J::.i K::.i L::.i M::.i N::[]=>R_l (D'.mk (F'.mk a b c d) e f g) (C'.mk i j m o p q r s (K'.mk t u v w y) z A B D E F) (A_d.mk H (O'.mk I J (F'.mk K L M N)))
  | _=>false
noncomputable def u_V (l:List At):V:=match l with
  | .i a::.i b::.i c::.i d::.i e::.i f::.r g::.i i::.i j::.i m::.i o::.i p::.r q::.i r::.i s::.b t::.b u::.b v::.b w::.b y::.b z::.b A::.b B::.r D::.i E::.i F::.r H::.i I::.i J::.i K::.i L::.i M::.i N::[]=>(V.bool (m_1 (D'.mk (F'.mk a b c d) e f g) (C'.mk i j m o p q r s (K'.mk t u v w y) z A B D E F) (A_d.mk H (O'.mk I J (F'.mk K L M N)))))
  | _=>.undef
abbrev l_V:List T:=[.agg D'.ts,.agg C'.ts,.agg A_d.ts]
noncomputable def z_W:CallF R:=callHook l_V p_A u_V
abbrev z_X:Prop:=Good1 (R:=V) Tryz.prog 3 z_W
noncomputable def N_g:List Int->List Int->Int:=fun x y=>q_M (U'.of (M_1 2 x)) (U'.of (M_1 2 y))
noncomputable def l_W (l:List V):Option (Nat × (List Int->Bool) × (List Int->List Int->Int)):=match T.getL [] l with
  | some ([])=>some (2,O_I,N_g)
  | _=>none
noncomputable def O_g (a:C'):List Int->List Int->Int:=fun x y=>m_k (I'.of (M_1 6 x)) (I'.of (M_1 6 y)) a
noncomputable def l_X (l:List V):Option (Nat × (List Int->Bool) × (List Int->List Int->Int)):=match T.getL [.pdc C'.sh 0 [.int .i64,.int .i64,.int .i64,.int .i64,.int .i64,.data U'.sh,.int .i64,.int .i64,.bool,.bool,.bool,.bool,.bool,.bool,.bool,.bool,.data [.int .i64],.int .i64,.int .i64]] l with
  | some (.i a::.i b::.i c::.i d::.i e::.r f::.i g::.i i::.b j::.b m::.b o::.b p::.b q::.b r::.b s::.b t::.r u::.i v::.i w::[])=>some (6,V_b,O_g (C'.mk a b c d e f g i (K'.mk j m o p q) r s t u v w))
  | _=>none
end Go.Vm
