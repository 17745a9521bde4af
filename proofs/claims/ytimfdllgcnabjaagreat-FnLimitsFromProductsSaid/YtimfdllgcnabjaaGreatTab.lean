/- The types of the program, written out. No condition. -/
import Derived.Test.YtimfdllgcnabjaaGreatBmSix
import Derived.Test.YtimfdllgcnabjaaGreatProg
namespace Go.Bm
open Go.Proofs
set_option maxRecDepth 100000
abbrev ya0(g:Nat)(h:Option TypeId)(i:Option IntKind)(m:Bool):Ty:=.mk true false false false false 1 g h i none [] none m
abbrev ya1(f:Nat)(g:Nat)(k:List (Nat×Nat×Nat)):Ty:=.mk true true false false true f g none none none k none false
abbrev ya3:Ty:=(ya0 8 none none false)
abbrev ya4:Ty:=(ya0 0 none none false)
abbrev ya5:Ty:=(ya0 1 none (some .u8) false)
abbrev ya6:Ty:=(ya1 3 40 [(0,(22,1)),(1,(3,1)),(2,(54,1))])
abbrev ya7:Ty:=(ya1 2 16 [(0,(2,1)),(1,(2,1))])
abbrev ya8:Ty:=(ya0 8 none (some .u64) false)
abbrev ya9:Ty:=(ya0 16 none none true)
abbrev yb0:Ty:=(ya0 4 none (some .i32) false)
abbrev yb1:Ty:=(ya0 8 none (some .i64) false)
abbrev yb2:Ty:=(ya1 4 24 [(0,(2,1)),(1,(3,1)),(2,(4,1)),(3,(6,1))])
abbrev yb3:Ty:=(ya1 2 24 [(0,(9,1)),(1,(12,1))])
abbrev yb4:Ty:=(ya1 1 8 [(0,(17,1))])
abbrev yb5:Ty:=(ya1 5 104 [(0,(2,1)),(1,(24,1)),(2,(24,1)),(3,(24,1)),(4,(25,1))])
abbrev yb6:Ty:=(ya1 12 256 [(0,(27,5)),(5,(27,5)),(10,(24,1)),(11,(24,1))])
abbrev yb7:Ty:=(ya1 2 32 [(0,(2,1)),(1,(24,1))])
abbrev yb8:Ty:=(ya1 1 8 [(0,(63,1))])
abbrev yb9:Ty:=(ya1 5 40 [(0,(66,1)),(1,(2,1)),(2,(2,1)),(3,(142,1)),(4,(4,1))])
abbrev yc0:Ty:=(ya1 27 552 [(0,(29,12)),(12,(29,12)),(24,(4,1)),(25,(3,1)),(26,(25,1))])
abbrev yc1:Ty:=(ya1 3 40 [(0,(2,1)),(1,(2,1)),(2,(24,1))])
abbrev yc2:Ty:=(ya1 4 40 [(0,(17,1)),(1,(17,1)),(2,(17,1)),(3,(9,1))])
abbrev yc3:Ty:=(ya1 0 0 [(0,(191,0))])
abbrev yc4:Ty:=(ya1 11 48 [(0,(12,1)),(1,(12,1)),(2,(195,1)),(3,(196,1)),(4,(5,1)),(5,(5,1)),(6,(197,1)),(7,(198,1)),(8,(199,1)),(9,(200,1)),(10,(201,1))])
abbrev yc5:T:=(.p (.p (.int .i64) (.p (.sl (.int .i64)) (.p (.sl (.int .i64)) (.p (.sl (.int .i64)) (.sl (.sl (.int .i64))))))) (.p (.p (.int .i64) (.p (.sl (.int .i64)) (.p (.sl (.int .i64)) (.p (.sl (.int .i64)) (.sl (.sl (.int .i64))))))) (.p (.sl (.int .i64)) (.sl (.int .i64)))))
abbrev yc6:T:=(.int .i64)
abbrev yc7:T:=(.p (.int .u64) (.p (.int .u64) (.p (.int .u32) (.p (.int .u8) (.p (.int .u8) (.p (.int .u8) (.p (.int .u8) (.p .any (.p .any (.p (.int .i32) (.int .i32)))))))))))
abbrev yc8:T:=(.p (.sl (.int .u8)) (.p yc6 (.int .u64)))
abbrev yc9:T:=(.sl yc6)
abbrev yd0:T:=(.p .bool (.p .bool (.p .bool .bool)))
abbrev yd1:T:=(.p yc6 yc6)
abbrev yd2:T:=(.p yc6 yc9)
abbrev yd3:T:=(.p yc5 (.p yc5 (.p .bool (.p yc6 (.sl yc9)))))
abbrev yd4:T:=(.int .u8)
abbrev yd5:T:=(.p yc6 (.p yc9 (.p yc9 (.p yc9 (.sl yc9)))))
abbrev yd6:T:=(.p .any (.p yc6 (.p yc6 (.p .any .bool))))
abbrev yd7:T:=(.int .u64)
abbrev yd8:T:=(.p .any (.p .any (.p .any .str)))
abbrev yd9:T:=(.p yc6 (.p yc6 (.p .bool yd4)))
def tys:List Ty:=[ya4,ya3,yb1,yb1,(.mk true false true false false 1 1 none none none [] none false),ya5,ya5,yb2,yb2,(.mk true false false true false 1 16 none none none [] none false),(.mk true false false true false 1 16 none none none [] none false),(.mk true false false true false 1 16 none none none [] none false),ya8,yb3,yb3,ya3,ya3,ya3,yb4,yb4,ya9,yb0,(ya0 24 (some 5) none false),ya3,(ya0 24 (some 2) none false),(ya0 24 (some 24) none false),yb5,yb5,yb6,yb6,ya3,yb7,yb7,ya4,ya3,ya3,ya4,ya3,ya4,ya3,ya3,ya3,(ya0 24 (some 32) none false),ya4,ya3,ya3,ya3,ya4,ya3,ya4,ya3,ya3,ya3,ya3,ya8,ya3,ya4,ya3,ya3,ya3,ya3,ya3,ya3,ya3,ya3,ya3,ya3,(.mk true true false false false 4 4 none none none [] (some (4,4)) false),ya3,(.mk true true false false false 8 8 none none none [] (some (67,2)) false),ya4,ya3,(ya0 24 (some 75) none false),ya3,ya3,(.mk true true false false false 3 24 none none none [] (some (2,3)) false),ya3,ya3,ya3,ya3,ya3,ya3,ya3,ya3,ya3,ya9,ya9,ya3,ya3,ya3,ya3,ya3,ya3,ya6,ya6,ya8,ya3,ya3,ya6,ya6,ya3,ya3,ya3,ya4,ya3,ya3,(ya0 24 (some 107) none false),ya3,ya3,ya7,ya7,ya3,ya3,ya3,ya3,ya3,ya3,ya3,ya3,ya3,ya3,yb8,yb8,ya3,ya3,ya3,ya3,ya3,ya3,ya3,ya3,ya3,ya3,ya3,ya3,(ya0 24 (some 29) none false),ya3,ya3,ya3,(ya0 24 (some 66) none false),ya3,ya3,ya3,yb9,yb9,ya7,ya7,ya4,ya3,ya3,ya3,ya3,ya3,ya3,ya3,ya3,ya3,ya3,ya3,ya3,ya3,ya3,ya3,ya3,(ya0 24 (some 146) none false),ya3,ya3,ya3,ya3,yc0,yc0,ya3,ya3,ya3,ya3,(ya0 24 (some 178) none false),ya3,yc1,yc1,ya3,ya3,(.mk true false false false false 1 8 none none (some (146,4)) [] none false),
ya3,ya3,ya3,ya3,ya3,ya3,ya3,yc2,yc2,(.mk true true false false false 0 0 none none none [] (some (16,0)) false),yc3,yc3,ya3,(ya0 4 none (some .u32) false),ya5,ya5,ya3,ya3,yb0,yb0,yc4,yc4,ya3]
def tyd:List T:=[.any,.any,yc6,yc6,.bool,yd4,yd4,yd9,yd9,.str,.str,.str,yd7,(.p .str yd7),(.p .str yd7),.any,.any,.any,.any,.any,.any,(.int .i32),(.sl yd4),.any,yc9,(.sl yc9),yd5,yd5,yc5,yc5,.any,yd2,yd2,.any,.any,.any,.any,.any,.any,.any,.any,.any,(.sl yd2),.any,.any,.any,.any,.any,.any,.any,.any,.any,.any,.any,yd7,.any,.any,.any,.any,.any,.any,.any,.any,.any,.any,.any,.any,yd0,.any,(.p yd0 yd0),.any,.any,(.sl (.p yc6 yd1)),.any,.any,(.p yc6 yd1),.any,.any,.any,.any,.any,.any,.any,.any,.any,.any,.any,.any,.any,.any,.any,.any,.any,yc8,yc8,yd7,.any,.any,yc8,yc8,.any,.any,.any,.any,.any,.any,(.sl .any),.any,.any,yd1,yd1,.any,.any,.any,.any,.any,.any,.any,.any,.any,.any,.any,.any,.any,.any,.any,.any,.any,.any,.any,.any,.any,.any,.any,.any,(.sl yc5),.any,.any,.any,(.sl .any),.any,.any,.any,yd6,yd6,yd1,yd1,.any,.any,.any,.any,.any,.any,.any,.any,.any,.any,.any,.any,.any,.any,.any,.any,.any,(.sl yd1),.any,.any,.any,.any,yd3,yd3,.any,.any,.any,.any,(.sl (.p yc6 yd2)),.any,(.p yc6 yd2),(.p yc6 yd2),.any,.any,.any,.any,.any,.any,.any,.any,.any,.any,yd8,yd8,.u,.u,.u,.any,(.int .u32),yd4,yd4,.any,.any,(.int .i32),(.int .i32),yc7,yc7,.any]
def tyz:List Bool:=[false,true,true,true,true,true,true,true,true,true,true,true,true,true,true,true,true,true,true,true,true,true,true,true,true,true,true,true,true,true,true,true,true,false,true,true,false,true,false,true,true,true,true,false,true,true,true,false,true,false,true,true,true,true,true,true,false,true,true,true,true,true,true,true,true,true,true,true,true,true,false,true,true,true,true,true,true,true,true,true,true,true,true,true,true,true,true,true,true,true,true,true,true,true,true,true,true,true,true,true,true,true,true,false,true,true,true,true,true,true,true,true,true,true,true,true,true,true,true,true,true,true,true,true,true,true,true,true,true,true,true,true,true,true,true,true,true,true,true,true,true,true,true,true,true,true,true,false,true,true,true,true,true,true,true,true,true,true,true,true,true,true,true,true,true,true,true,true,true,true,true,true,true,true,true,true,true,true,true,true,true,true,true,true,true,true,true,true,true,true,true,true,true,true,true,true,true,true,true,true,true,true,true,true,true]
def tyq:List Nat:=[0,0,0,0,0,0,0,0,0,0,0,0,0,0,0,0,0,0,0,0,0,0,0,0,0,0,0,0,0,0,0,0,0,0,0,0,0,0,0,0,0,0,0,0,0,0,0,0,0,0,0,0,0,0,0,0,0,0,0,0,0,0,0,0,0,0,0,0,0,0,0,0,0,0,0,3,0,0,0,0,0,0,0,0,0,0,0,0,0,0,0,0,0,0,0,0,0,0,0,0,0,0,0,0,0,0,0,0,0,2,2,0,0,0,0,0,0,0,0,0,0,0,0,0,0,0,0,0,0,0,0,0,0,0,0,0,0,0,0,0,0,0,0,0,0,2,2,0,0,0,0,0,0,0,0,0,0,0,0,0,0,0,0,0,0,0,0,0,0,0,0,0,0,0,0,0,0,0,0,0,0,0,0,0,0,0,0,0,0,0,0,0,0,0,0,0,0,0,0,0,0,0,0,0,0]
def tym : List Mth := [⟨122, 86, "loop.example/g01083/impl.diagram", 176⟩]
def tab:Tab:=Bl tys tyd tyz tyq tym
theorem aS:TabOk Tryz.prog tab:=ZH 205 tys tyd tyz tyq tym (by kernel_rfl) (by kernel_rfl) (by kernel_rfl) (by kernel_rfl)
end Go.Bm
