/- A part of the proofs: lemmas, no statement of their own; no condition. -/
import Derived.Test.YtoocjipllmkjcaaGreatGMoL
import Derived.Test.YtoocjipllmkjcaaGreatProg
import Derived.KernelRfl
import Derived.Test.YtoocjipllmkjcaaGreatGFxH
import Derived.Test.YtoocjipllmkjcaaGreatGAbM
set_option linter.unusedSimpArgs false
set_option linter.unusedVariables false
namespace Go.Ab
open Go Go.Proofs
theorem V3p(x y:Int)(b:Bool):fnSum Tryz.prog {gam:=[]} [] 20 63 [.ptr 0 0,.val (.int .i64 x),.val (.int .i64 y)] (row 57 b) =
  (bif b then some (AV.val (Value.int IntKind.i64 0),[Con.row 57 [AV.val (Value.bool true)]])
   else
     bif bif false then true else decide (x>4611686018427387904) then
       some (AV.val (Value.int IntKind.i64 0),[Con.row 57 [AV.val (Value.bool true)]])
     else
       bif bif false then true else decide (x < -4611686018427387904) then
         some (AV.val (Value.int IntKind.i64 0),[Con.row 57 [AV.val (Value.bool true)]])
       else
         bif bif false then true else decide (y>4611686018427387904) then
           some (AV.val (Value.int IntKind.i64 0),[Con.row 57 [AV.val (Value.bool true)]])
         else
           bif !!bif false then true else decide (y < -4611686018427387904) then
             some
               (AV.val (Value.int IntKind.i64 0),
                 [Con.row 57 [AV.val (Value.bool (bif false then true else decide (y < -4611686018427387904)))]])
           else
             bif x==4611686018427387904 then
               bif !!bif true then y==4611686018427387904 else false then
                 some (AV.val (Value.int IntKind.i64 0),[Con.row 57 [AV.val (Value.bool true)]])
               else
                 bif bif false then true else decide (IntKind.i64.wrap (x+y)>4611686018427387904) then
                   some (AV.val (Value.int IntKind.i64 0),[Con.row 57 [AV.val (Value.bool true)]])
                 else
                   bif bif false then true else decide (IntKind.i64.wrap (x+y) < -4611686018427387904) then
                     some (AV.val (Value.int IntKind.i64 0),[Con.row 57 [AV.val (Value.bool true)]])
                   else
                     some
                       (AV.val (Value.int IntKind.i64 (IntKind.i64.wrap (x+y))),
                         [Con.row 57 [AV.val (Value.bool (bif false then true else decide (y < -4611686018427387904)))]])
             else
               bif bif false then true else decide (IntKind.i64.wrap (x+y)>4611686018427387904) then
                 some (AV.val (Value.int IntKind.i64 0),[Con.row 57 [AV.val (Value.bool true)]])
               else
                 bif bif false then true else decide (IntKind.i64.wrap (x+y) < -4611686018427387904) then
                   some (AV.val (Value.int IntKind.i64 0),[Con.row 57 [AV.val (Value.bool true)]])
                 else
                   some
                     (AV.val (Value.int IntKind.i64 (IntKind.i64.wrap (x+y))),
                       [Con.row 57 [AV.val (Value.bool (bif false then true else decide (y < -4611686018427387904)))]])):=by kernel_rfl
theorem V3q(x y:Int)(b:Bool):fnSum Tryz.prog {gam:=[]} [] 20 76 [.ptr 0 0,.val (.int .i64 x),.val (.int .i64 y)] (row 59 b) =
  (bif decide (x≥-4611686018427387904) then
     bif !bif true then decide (x≤4611686018427387904) else false then
       bif decide (y≥-4611686018427387904) then
         bif !bif true then decide (y≤4611686018427387904) else false then
           some (AV.val (Value.int IntKind.i64 0),[Con.row 59 [AV.val (Value.bool true)]])
         else some (AV.val (Value.int IntKind.i64 0),[Con.row 59 [AV.val (Value.bool true)]])
       else some (AV.val (Value.int IntKind.i64 0),[Con.row 59 [AV.val (Value.bool true)]])
     else
       bif decide (y≥-4611686018427387904) then
         bif !bif true then decide (y≤4611686018427387904) else false then
           some (AV.val (Value.int IntKind.i64 0),[Con.row 59 [AV.val (Value.bool true)]])
         else
           bif !!b then some (AV.val (Value.int IntKind.i64 0),[Con.row 59 [AV.val (Value.bool b)]])
           else
             bif
                 decide
                   (IntKind.i64.wrap
                       (IntKind.i64.wrap (IntKind.i64.wrap (x.tdiv 2)+IntKind.i64.wrap (y.tdiv 2)) +
                         IntKind.i64.wrap ((IntKind.i64.wrap (x.tmod 2+y.tmod 2)).tdiv 2)) >
                     2305843009213693952) then
               some (AV.val (Value.int IntKind.i64 0),[Con.row 59 [AV.val (Value.bool true)]])
             else
               bif
                   bif false then true
                   else
                     decide
                       (IntKind.i64.wrap
                           (IntKind.i64.wrap (IntKind.i64.wrap (x.tdiv 2)+IntKind.i64.wrap (y.tdiv 2)) +
                             IntKind.i64.wrap ((IntKind.i64.wrap (x.tmod 2+y.tmod 2)).tdiv 2)) <
                         -2305843009213693952) then
                 some (AV.val (Value.int IntKind.i64 0),[Con.row 59 [AV.val (Value.bool true)]])
               else
                 bif decide (IntKind.i64.wrap (x+y)≥-4611686018427387904) then
                   bif
                       bif false then true
                       else !bif true then decide (IntKind.i64.wrap (x+y)≤4611686018427387904) else false then
                     some (AV.val (Value.int IntKind.i64 0),[Con.row 59 [AV.val (Value.bool true)]])
                   else
                     some (AV.val (Value.int IntKind.i64 (IntKind.i64.wrap (x+y))),[Con.row 59 [AV.val (Value.bool b)]])
                 else some (AV.val (Value.int IntKind.i64 0),[Con.row 59 [AV.val (Value.bool true)]])
       else some (AV.val (Value.int IntKind.i64 0),[Con.row 59 [AV.val (Value.bool true)]])
   else
     bif decide (y≥-4611686018427387904) then
       bif !bif true then decide (y≤4611686018427387904) else false then
         some (AV.val (Value.int IntKind.i64 0),[Con.row 59 [AV.val (Value.bool true)]])
       else some (AV.val (Value.int IntKind.i64 0),[Con.row 59 [AV.val (Value.bool true)]])
     else some (AV.val (Value.int IntKind.i64 0),[Con.row 59 [AV.val (Value.bool true)]])):=by kernel_rfl
theorem P4q(o:Bool→Int×Int×Unit→Int×Bool)(x y:Int)(b:Bool):fnSum Tryz.prog {gam:=[(63,S 57 o)]} [] 20 60 [.ptr 0 0,.val (.int .i64 x),.val (.int .i64 y)] (row 57 b) =
  (bif b then some (AV.val (Value.int IntKind.i64 0),[Con.row 57 [AV.val (Value.bool true)]])
   else
     bif bif false then true else decide (x>4611686018427387904) then
       some (AV.val (Value.int IntKind.i64 0),[Con.row 57 [AV.val (Value.bool true)]])
     else
       bif bif false then true else decide (x < -4611686018427387904) then
         some (AV.val (Value.int IntKind.i64 0),[Con.row 57 [AV.val (Value.bool true)]])
       else
         bif bif false then true else decide (y>4611686018427387904) then
           some (AV.val (Value.int IntKind.i64 0),[Con.row 57 [AV.val (Value.bool true)]])
         else
           bif !!bif false then true else decide (y < -4611686018427387904) then
             some
               (AV.val (Value.int IntKind.i64 0),
                 [Con.row 57 [AV.val (Value.bool (bif false then true else decide (y < -4611686018427387904)))]])
           else
             some
               (AV.val
                   (Value.int IntKind.i64
                     (o (bif false then true else decide (y < -4611686018427387904))
                         (x,IntKind.i64.wrap (0-y),())).fst),
                 [Con.row 57
                     [AV.val
                         (Value.bool
                           (o (bif false then true else decide (y < -4611686018427387904))
                               (x,IntKind.i64.wrap (0-y),())).snd)]])):=by kernel_rfl
theorem P4r(o:Bool→Int×Int×Unit→Int×Bool)(x y:Int)(b:Bool):fnSum Tryz.prog {gam:=[(76,S 59 o)]} [] 20 77 [.ptr 0 0,.val (.int .i64 x),.val (.int .i64 y)] (row 59 b) =
  (bif decide (x≥-4611686018427387904) then
     bif !bif true then decide (x≤4611686018427387904) else false then
       bif decide (y≥-4611686018427387904) then
         bif !bif true then decide (y≤4611686018427387904) else false then
           some (AV.val (Value.int IntKind.i64 0),[Con.row 59 [AV.val (Value.bool true)]])
         else some (AV.val (Value.int IntKind.i64 0),[Con.row 59 [AV.val (Value.bool true)]])
       else some (AV.val (Value.int IntKind.i64 0),[Con.row 59 [AV.val (Value.bool true)]])
     else
       bif decide (y≥-4611686018427387904) then
         bif !bif true then decide (y≤4611686018427387904) else false then
           some (AV.val (Value.int IntKind.i64 0),[Con.row 59 [AV.val (Value.bool true)]])
         else
           bif !!b then some (AV.val (Value.int IntKind.i64 0),[Con.row 59 [AV.val (Value.bool b)]])
           else
             some
               (AV.val (Value.int IntKind.i64 (o b (x,IntKind.i64.wrap (0-y),())).fst),
                 [Con.row 59 [AV.val (Value.bool (o b (x,IntKind.i64.wrap (0-y),())).snd)]])
       else some (AV.val (Value.int IntKind.i64 0),[Con.row 59 [AV.val (Value.bool true)]])
   else
     bif decide (y≥-4611686018427387904) then
       bif !bif true then decide (y≤4611686018427387904) else false then
         some (AV.val (Value.int IntKind.i64 0),[Con.row 59 [AV.val (Value.bool true)]])
       else some (AV.val (Value.int IntKind.i64 0),[Con.row 59 [AV.val (Value.bool true)]])
     else some (AV.val (Value.int IntKind.i64 0),[Con.row 59 [AV.val (Value.bool true)]])):=by kernel_rfl
theorem D2b(x y:Int)(b:Bool):fnSum Tryz.prog {gam:=[]} [] 20 63 [.ptr 0 0,.val (.int .i64 x),.val (.int .i64 y)] (row 57 b)=some (.val (.int .i64 (fadd b x y).1),row 57 (fadd b x y).2):=by
  rw[V3p]
  unfold fadd num row
  cases b
  · simp only[cond_false,Bool.not_false,Bool.true_and,cond_true]
    by_cases h1:x>4611686018427387904
    · have:decide (x≤4611686018427387904)=false:=by simp;omega
      simp[h1,this]
    by_cases h2:x < -4611686018427387904
    · have:decide (-4611686018427387904≤x)=false:=by simp;omega
      simp[h1,h2,this]
    by_cases h3:y>4611686018427387904
    · have:decide (y≤4611686018427387904)=false:=by simp;omega
      simp[h1,h2,h3,this]
    by_cases h4:y < -4611686018427387904
    · have:decide (-4611686018427387904≤y)=false:=by simp;omega
      simp[h1,h2,h3,h4,this]
    have e1:decide (x≤4611686018427387904)=true:=by simp;omega
    have e2:decide (-4611686018427387904≤x)=true:=by simp;omega
    have e3:decide (y≤4611686018427387904)=true:=by simp;omega
    have e4:decide (-4611686018427387904≤y)=true:=by simp;omega
    simp only[h1,h2,h3,h4,e1,e2,e3,e4,decide_false,cond_false,Bool.true_and,Bool.not_not,cond_true]
    by_cases h5:x=4611686018427387904∧y=4611686018427387904
    · simp[h5.1,h5.2]
    · rw[A0q (by omega) (by omega)]
      have t:(x==4611686018427387904&&y==4611686018427387904)=false:=by simp;omega
      by_cases h6:x+y>4611686018427387904
      · have e6:decide (x+y≤4611686018427387904)=false:=by simp;omega
        simp only[h6,e6,Bool.false_and,decide_true,cond_true,cond_false]
        cases (x==4611686018427387904)<;>cases (y==4611686018427387904)<;>rfl
      · have e6:decide (x+y≤4611686018427387904)=true:=by simp;omega
        by_cases h7:x+y < -4611686018427387904
        · have e7:decide (-4611686018427387904≤x+y)=false:=by simp;omega
          simp only[h6,h7,e6,e7,Bool.false_and,Bool.and_false,decide_true,decide_false,cond_true,cond_false]
          cases (x==4611686018427387904)<;>cases (y==4611686018427387904)<;>rfl
        · have e7:decide (-4611686018427387904≤x+y)=true:=by simp;omega
          simp only[h6,h7,e6,e7,Bool.and_self,decide_true,decide_false,cond_true,cond_false]
          revert t
          cases (x==4611686018427387904)<;>cases (y==4611686018427387904)<;>simp
  · rfl
theorem A2d{x y:Int}(hx1:-4611686018427387904≤x)(hx2:x≤4611686018427387904)(hy1:-4611686018427387904≤y)(hy2:y≤4611686018427387904) :
    (x.tdiv 2+y.tdiv 2+(x.tmod 2+y.tmod 2).tdiv 2>2305843009213693952→x+y>4611686018427387904)∧(x.tdiv 2+y.tdiv 2+(x.tmod 2+y.tmod 2).tdiv 2 < -2305843009213693952→x+y < -4611686018427387904) ∧
    (x+y=9223372036854775808→x.tdiv 2+y.tdiv 2+(x.tmod 2+y.tmod 2).tdiv 2>2305843009213693952):=by
  have b1:=W1m x
  have b2:=W1m y
  have b3:=A3r x
  have b4:=A3r y
  have b5:=W1m (x.tmod 2+y.tmod 2)
  refine ⟨fun h=>?_,fun h=>?_,fun h=>?_⟩<;>omega
theorem D2c(x y:Int)(b:Bool):fnSum Tryz.prog {gam:=[]} [] 20 76 [.ptr 0 0,.val (.int .i64 x),.val (.int .i64 y)] (row 59 b)=some (.val (.int .i64 (fadd b x y).1),row 59 (fadd b x y).2):=by
  rw[V3q]
  unfold fadd num row
  by_cases h1:x>4611686018427387904
  · have:decide (x≤4611686018427387904)=false:=by simp;omega
    simp only[this,Bool.false_and,Bool.and_false,cond_false,Bool.cond_false_right,Bool.not_true]
    cases decide (x≥-4611686018427387904)<;>cases decide (y≥-4611686018427387904)<;>cases decide (y≤4611686018427387904)<;>rfl
  by_cases h2:x < -4611686018427387904
  · have e:decide (-4611686018427387904≤x)=false:=by simp;omega
    have e':decide (x≥-4611686018427387904)=false:=e
    simp only[e,e',Bool.false_and,Bool.and_false,cond_false]
    cases decide (y≥-4611686018427387904)<;>cases decide (y≤4611686018427387904)<;>rfl
  have e1:decide (x≤4611686018427387904)=true:=by simp;omega
  have e2:decide (-4611686018427387904≤x)=true:=by simp;omega
  have e2':decide (x≥-4611686018427387904)=true:=e2
  by_cases h3:y>4611686018427387904
  · have:decide (y≤4611686018427387904)=false:=by simp;omega
    simp only[e1,e2,e2',this,Bool.false_and,Bool.and_false,cond_false,cond_true,Bool.not_true]
    cases decide (y≥-4611686018427387904)<;>rfl
  by_cases h4:y < -4611686018427387904
  · have e:decide (-4611686018427387904≤y)=false:=by simp;omega
    have e':decide (y≥-4611686018427387904)=false:=e
    simp only[e1,e2,e2',e,e',Bool.false_and,Bool.and_false,cond_false,cond_true,Bool.not_true]
  have e3:decide (y≤4611686018427387904)=true:=by simp;omega
  have e4:decide (-4611686018427387904≤y)=true:=by simp;omega
  have e4':decide (y≥-4611686018427387904)=true:=e4
  simp only[e1,e2,e2',e3,e4,e4',Bool.true_and,cond_true,cond_false,Bool.not_true,Bool.not_not]
  cases b
  · rw[V2z (by omega) (by omega) (by omega) (by omega)]
    obtain ⟨r1,r2,r3⟩:=A2d (x:=x) (y:=y) (by omega) (by omega) (by omega) (by omega)
    by_cases h5:x+y>4611686018427387904
    · have e5:decide (x+y≤4611686018427387904)=false:=by simp;omega
      simp only[e5,Bool.false_and,Bool.and_false,cond_false]
      by_cases h6:x.tdiv 2+y.tdiv 2+(x.tmod 2+y.tmod 2).tdiv 2>2305843009213693952
      · simp only[h6,decide_true,cond_true]
      · by_cases h7:x.tdiv 2+y.tdiv 2+(x.tmod 2+y.tmod 2).tdiv 2 < -2305843009213693952
        · simp only[h6,h7,decide_true,decide_false,cond_true,cond_false]
        · have e8:IntKind.i64.wrap (x+y)=x+y:=A0q (by omega) (by omega)
          rw[e8]
          simp only[h6,h7,e5,decide_false,cond_false,Bool.not_false,cond_true]
          cases decide (x+y≥-4611686018427387904)<;>rfl
    · have e5:decide (x+y≤4611686018427387904)=true:=by simp;omega
      have h6:¬ (x.tdiv 2+y.tdiv 2+(x.tmod 2+y.tmod 2).tdiv 2>2305843009213693952):=fun h=>h5 (r1 h)
      have e8:IntKind.i64.wrap (x+y)=x+y:=A0q (by omega) (by omega)
      rw[e8]
      by_cases h7:x+y < -4611686018427387904
      · have e7:decide (-4611686018427387904≤x+y)=false:=by simp;omega
        have e7':decide (x+y≥-4611686018427387904)=false:=e7
        simp only[h6,e5,e7,e7',decide_false,cond_false,Bool.false_and,Bool.and_false]
        cases decide (x.tdiv 2+y.tdiv 2+(x.tmod 2+y.tmod 2).tdiv 2 < -2305843009213693952)<;>rfl
      · have e7:decide (-4611686018427387904≤x+y)=true:=by simp;omega
        have e7':decide (x+y≥-4611686018427387904)=true:=e7
        have h9:¬ (x.tdiv 2+y.tdiv 2+(x.tmod 2+y.tmod 2).tdiv 2 < -2305843009213693952):=fun h=>h7 (r2 h)
        simp only[h6,h9,e5,e7,e7',decide_false,cond_false,cond_true,Bool.not_true,Bool.and_self,Bool.not_false]
  · rfl
theorem X1u(b:Bool)(x y:Int)(hx1:-4611686018427387904≤x)(hx2:x≤4611686018427387904)(hy1:-4611686018427387904≤y)(hy2:y≤4611686018427387904):fadd b x (IntKind.i64.wrap (0-y))=fsub b x y:=by
  rw[A0q (by omega) (by omega)]
  unfold fadd fsub
  have:num (0-y)=num y:=by
    have h1:num y=true:=G0e.2 ⟨hy1,hy2⟩
    rw[h1]
    exact G0e.2 (by omega)
  rw[this,show x+(0-y)=x-y by omega]
theorem R2m(x y:Int)(b:Bool):fnSum Tryz.prog {gam:=[(63,S 57 (op2 fadd))]} [] 20 60 [.ptr 0 0,.val (.int .i64 x),.val (.int .i64 y)] (row 57 b)=some (.val (.int .i64 (fsub b x y).1),row 57 (fsub b x y).2):=by
  rw[P4q]
  cases b
  · by_cases h1:x>4611686018427387904
    · have:num x=false:=by simp[num];omega
      simp[h1,fsub,this,row]
    by_cases h2:x < -4611686018427387904
    · have:num x=false:=by simp[num];omega
      simp[h1,h2,fsub,this,row]
    by_cases h3:y>4611686018427387904
    · have:num y=false:=by simp[num];omega
      simp[h1,h2,h3,fsub,this,row]
    by_cases h4:y < -4611686018427387904
    · have:num y=false:=by simp[num];omega
      simp[h1,h2,h3,h4,fsub,this,row]
    simp only[h1,h2,h3,h4,decide_false,cond_false,Bool.not_not,op2,row]
    rw[X1u false x y (by omega) (by omega) (by omega) (by omega)]
  · rfl
theorem R2n(x y:Int)(b:Bool):fnSum Tryz.prog {gam:=[(76,S 59 (op2 fadd))]} [] 20 77 [.ptr 0 0,.val (.int .i64 x),.val (.int .i64 y)] (row 59 b)=some (.val (.int .i64 (fsub b x y).1),row 59 (fsub b x y).2):=by
  rw[P4r]
  by_cases h1:x>4611686018427387904
  · have:num x=false:=by simp[num];omega
    have e:decide (x≤4611686018427387904)=false:=by simp;omega
    simp only[e,fsub,this,Bool.false_and,Bool.and_false,cond_false,Bool.not_true,row]
    cases decide (x≥-4611686018427387904)<;>cases decide (y≥-4611686018427387904)<;>cases decide (y≤4611686018427387904)<;>rfl
  by_cases h2:x < -4611686018427387904
  · have:num x=false:=by simp[num];omega
    have e:decide (x≥-4611686018427387904)=false:=by simp;omega
    simp only[e,fsub,this,Bool.false_and,Bool.and_false,cond_false,row]
    cases decide (y≥-4611686018427387904)<;>cases decide (y≤4611686018427387904)<;>rfl
  have e1:decide (x≤4611686018427387904)=true:=by simp;omega
  have e2:decide (x≥-4611686018427387904)=true:=by simp;omega
  by_cases h3:y>4611686018427387904
  · have:num y=false:=by simp[num];omega
    have e:decide (y≤4611686018427387904)=false:=by simp;omega
    simp only[e1,e2,e,fsub,this,Bool.false_and,Bool.and_false,cond_false,cond_true,Bool.not_true,row]
    cases decide (y≥-4611686018427387904)<;>rfl
  by_cases h4:y < -4611686018427387904
  · have:num y=false:=by simp[num];omega
    have e:decide (y≥-4611686018427387904)=false:=by simp;omega
    simp only[e1,e2,e,fsub,this,Bool.false_and,Bool.and_false,cond_false,cond_true,Bool.not_true,row]
  have e3:decide (y≤4611686018427387904)=true:=by simp;omega
  have e4:decide (y≥-4611686018427387904)=true:=by simp;omega
  simp only[e1,e2,e3,e4,cond_true,cond_false,Bool.not_true,Bool.not_not,op2,row]
  rw[X1u b x y (by omega) (by omega) (by omega) (by omega)]
  cases b<;>rfl
theorem N2b:A0h Tryz.prog 63 (S 57 (op2 fadd)):=S_ok (E:={gam:=[]}) GamOk.nil 20 fun b a=>D2b a.1 a.2.1 b
theorem X2h:A0h Tryz.prog 76 (S 59 (op2 fadd)):=S_ok (E:={gam:=[]}) GamOk.nil 20 fun b a=>D2c a.1 a.2.1 b
theorem X2j:A0h Tryz.prog 60 (S 57 (op2 fsub)):=S_ok (E:={gam:=[(63,S 57 (op2 fadd))]}) (.cons N2b .nil) 20 fun b a=>R2m a.1 a.2.1 b
theorem M3w:A0h Tryz.prog 77 (S 59 (op2 fsub)):=S_ok (E:={gam:=[(76,S 59 (op2 fadd))]}) (.cons X2h .nil) 20 fun b a=>R2n a.1 a.2.1 b
def gamA(o:Ops):Gam:=[(63,S 57 (op2 o.add)),(60,S 57 (op2 o.sub)),(76,S 59 (op2 o.add)),(77,S 59 (op2 o.sub))]
theorem V4r(o:Ops)(b:Bool)(u v:V3):fnSum Tryz.prog {gam:=gamA o} [] 20 146 [.ptr 0 0,.val (Cod.enc u),.val (Cod.enc v)] (row 57 b) =
  some (.val (Cod.enc (vop o.add b (u,v,())).1),row 57 (vop o.add b (u,v,())).2):=by
 refine Eq.trans (?_:_=bif (vop o.add b (u,v,())).2 then some (.val (Cod.enc V3.zero),row 57 (vop o.add b (u,v,())).2) else some (.val (Cod.enc (P0e b (fun b=>o.add b u.x v.x) (fun b=>o.add b u.y v.y) (fun b=>o.add b u.z v.z)).1),row 57 (vop o.add b (u,v,())).2)) pull
 kernel_rfl
theorem V4t(o:Ops)(b:Bool)(u v:V3):fnSum Tryz.prog {gam:=gamA o} [] 20 85 [.ptr 0 0,.val (Cod.enc u),.val (Cod.enc v)] (row 59 b) =
  some (.val (Cod.enc (vop o.add b (u,v,())).1),row 59 (vop o.add b (u,v,())).2):=by
 refine Eq.trans (?_:_=bif (vop o.add b (u,v,())).2 then some (.val (Cod.enc V3.zero),row 59 (vop o.add b (u,v,())).2) else some (.val (Cod.enc (P0e b (fun b=>o.add b u.x v.x) (fun b=>o.add b u.y v.y) (fun b=>o.add b u.z v.z)).1),row 59 (vop o.add b (u,v,())).2)) pull
 kernel_rfl
theorem M5w(o:Ops)(b:Bool)(u v:V3):fnSum Tryz.prog {gam:=gamA o} [] 20 132 [.ptr 0 0,.val (Cod.enc u),.val (Cod.enc v)] (row 57 b) =
  some (.val (Cod.enc (vop o.sub b (u,v,())).1),row 57 (vop o.sub b (u,v,())).2):=by
 refine Eq.trans (?_:_=bif (vop o.sub b (u,v,())).2 then some (.val (Cod.enc V3.zero),row 57 (vop o.sub b (u,v,())).2) else some (.val (Cod.enc (P0e b (fun b=>o.sub b u.x v.x) (fun b=>o.sub b u.y v.y) (fun b=>o.sub b u.z v.z)).1),row 57 (vop o.sub b (u,v,())).2)) pull
 kernel_rfl
theorem M5x(o:Ops)(b:Bool)(u v:V3):fnSum Tryz.prog {gam:=gamA o} [] 20 158 [.ptr 0 0,.val (Cod.enc u),.val (Cod.enc v)] (row 59 b) =
  some (.val (Cod.enc (vop o.sub b (u,v,())).1),row 59 (vop o.sub b (u,v,())).2):=by
 refine Eq.trans (?_:_=bif (vop o.sub b (u,v,())).2 then some (.val (Cod.enc V3.zero),row 59 (vop o.sub b (u,v,())).2) else some (.val (Cod.enc (P0e b (fun b=>o.sub b u.x v.x) (fun b=>o.sub b u.y v.y) (fun b=>o.sub b u.z v.z)).1),row 59 (vop o.sub b (u,v,())).2)) pull
 kernel_rfl
def ops0:Ops:={add:=fadd,sub:=fsub,mul:=fun _ _ _=>(0,true),div:=fun _ _ _=>(0,true),mod:=fun _ _ _=>(0,true),part:=fun _ _ _ _=>(0,true),norm:=fun _ _ _ _=>(0,true),sqrt:=fun _ _=>(0,true)}
theorem J1v:GamOk Tryz.prog (gamA ops0):=.cons N2b (.cons X2j (.cons X2h (.cons M3w .nil)))
def M0y(g:Bool→Int→Int→Int×Bool)(b:Bool)(p:V3×Int×Unit):V3×Bool :=
 P0d (P0e b (fun b=>g b p.1.x p.2.1) (fun b=>g b p.1.y p.2.1) (fun b=>g b p.1.z p.2.1))
theorem Q3t(g:Bool→Int→Int→Int×Bool)(b:Bool)(u:V3)(k:Int):fnSum Tryz.prog {gam:=[(64,S 57 (op2 g))]} [] 20 144 [.ptr 0 0,.val (Cod.enc u),.val (.int .i64 k)] (row 57 b) =
  some (.val (Cod.enc (M0y g b (u,k,())).1),row 57 (M0y g b (u,k,())).2):=by
 refine Eq.trans (?_:_=bif (M0y g b (u,k,())).2 then some (.val (Cod.enc V3.zero),row 57 (M0y g b (u,k,())).2) else some (.val (Cod.enc (P0e b (fun b=>g b u.x k) (fun b=>g b u.y k) (fun b=>g b u.z k)).1),row 57 (M0y g b (u,k,())).2)) pull
 kernel_rfl
theorem Q3u(g:Bool→Int→Int→Int×Bool)(b:Bool)(u:V3)(k:Int):fnSum Tryz.prog {gam:=[(80,S 59 (op2 g))]} [] 20 119 [.ptr 0 0,.val (Cod.enc u),.val (.int .i64 k)] (row 59 b) =
  some (.val (Cod.enc (M0y g b (u,k,())).1),row 59 (M0y g b (u,k,())).2):=by
 refine Eq.trans (?_:_=bif (M0y g b (u,k,())).2 then some (.val (Cod.enc V3.zero),row 59 (M0y g b (u,k,())).2) else some (.val (Cod.enc (P0e b (fun b=>g b u.x k) (fun b=>g b u.y k) (fun b=>g b u.z k)).1),row 59 (M0y g b (u,k,())).2)) pull
 kernel_rfl
theorem ok44:A0h Tryz.prog 144 (S 57 (M0y fmul)):=S_ok (E:={gam:=[(64,S 57 (op2 fmul))]}) (.cons N2a .nil) 20 fun b a=>Q3t fmul b a.1 a.2.1
theorem ok45:A0h Tryz.prog 119 (S 59 (M0y fmul)):=S_ok (E:={gam:=[(80,S 59 (op2 fmul))]}) (.cons X2g .nil) 20 fun b a=>Q3u fmul b a.1 a.2.1
def R1e(o:Ops)(b:Bool)(p:V3×V3×Unit):Int×Bool :=
 let x:=o.mul b p.1.x p.2.1.x
 let y:=o.mul x.2 p.1.y p.2.1.y
 let s:=o.add y.2 x.1 y.1
 let z:=o.mul s.2 p.1.z p.2.1.z
 o.add z.2 s.1 z.1
def T2p(o:Ops)(b:Bool)(p:V3×V3×Unit):Int×Bool :=
 let x:=o.mul b p.1.x p.2.1.x
 let y:=o.mul x.2 p.1.y p.2.1.y
 let z:=o.mul y.2 p.1.z p.2.1.z
 let s:=o.add z.2 x.1 y.1
 o.add s.2 s.1 z.1
def W1y(g:Bool→Int→Int→Int×Bool):Prop:=∀x y,g true x y=(0,true)
theorem R3z{o:Ops}(ha:W1y o.add)(hm:W1y o.mul)(b:Bool)(p:V3×V3×Unit):R1e o b p=T2p o b p:=by
 obtain ⟨u,v,_⟩:=p
 unfold R1e T2p
 dsimp only
 cases b
 ·rcases h1:o.mul false u.x v.x with ⟨x,f1⟩
  cases f1
  ·rcases h2:o.mul false u.y v.y with ⟨y,f2⟩
   cases f2
   ·rcases h3:o.mul false u.z v.z with ⟨z,f3⟩
    rcases h4:o.add false x y with ⟨s,f4⟩
    cases f3<;>cases f4<;>simp[h3,h4,ha _ _,hm _ _]
   ·simp[ha _ _,hm _ _]
  ·simp[ha _ _,hm _ _]
 ·simp[ha _ _,hm _ _]
def gamF(o:Ops):Gam:=[(63,S 57 (op2 o.add)),(60,S 57 (op2 o.sub)),(76,S 59 (op2 o.add)),(77,S 59 (op2 o.sub)),(64,S 57 (op2 o.mul)),(80,S 59 (op2 o.mul))]
theorem X4t(o:Ops)(b:Bool)(u v:V3):fnSum Tryz.prog {gam:=gamF o} [] 20 198 [.ptr 0 0,.val (Cod.enc u),.val (Cod.enc v)] (row 57 b)=some (.val (Cod.enc (R1e o b (u,v,())).1),row 57 (R1e o b (u,v,())).2):=by kernel_rfl
theorem X4u(o:Ops)(b:Bool)(u v:V3):fnSum Tryz.prog {gam:=gamF o} [] 20 121 [.ptr 0 0,.val (Cod.enc u),.val (Cod.enc v)] (row 59 b)=some (.val (Cod.enc (T2p o b (u,v,())).1),row 59 (T2p o b (u,v,())).2):=by kernel_rfl
def Z0u(o:Ops)(a b c d:Int)(f:Bool):Int×Bool :=
 o.sub (o.mul (o.mul f a b).2 c d).2 (o.mul f a b).1 (o.mul (o.mul f a b).2 c d).1
def W1t(o:Ops)(f:Bool)(u v:V3):V3×Bool:=P0e f (Z0u o u.y v.z u.z v.y) (Z0u o u.z v.x u.x v.z) (Z0u o u.x v.y u.y v.x)
def M0x(o:Ops)(f:Bool)(p:V3×V3×Unit):V3×Bool:=P0d (W1t o f p.1 p.2.1)
theorem E3p(o:Ops)(b:Bool)(u v:V3):fnSum Tryz.prog {gam:=gamF o} [] 20 145 [.ptr 0 0,.val (Cod.enc u),.val (Cod.enc v)] (row 57 b)=some (.val (Cod.enc (M0x o b (u,v,())).1),row 57 (M0x o b (u,v,())).2):=by
 refine Eq.trans (?_:_=bif (M0x o b (u,v,())).2 then some (.val (Cod.enc V3.zero),row 57 (M0x o b (u,v,())).2) else some (.val (Cod.enc (W1t o b u v).1),row 57 (M0x o b (u,v,())).2)) pull
 kernel_rfl
theorem E3q(o:Ops)(b:Bool)(u v:V3):fnSum Tryz.prog {gam:=gamF o} [] 20 120 [.ptr 0 0,.val (Cod.enc u),.val (Cod.enc v)] (row 59 b)=some (.val (Cod.enc (M0x o b (u,v,())).1),row 59 (M0x o b (u,v,())).2):=by
 refine Eq.trans (?_:_=bif (M0x o b (u,v,())).2 then some (.val (Cod.enc V3.zero),row 59 (M0x o b (u,v,())).2) else some (.val (Cod.enc (W1t o b u v).1),row 59 (M0x o b (u,v,())).2)) pull
 kernel_rfl
def opsM:Ops:={add:=fadd,sub:=fsub,mul:=fmul,div:=fdiv,mod:=fun _ _ _=>(0,true),part:=G0m,norm:=fun _ _ _ _=>(0,true),sqrt:=fun _ _=>(0,true)}
theorem J1w:GamOk Tryz.prog (gamF opsM):=.cons N2b (.cons X2j (.cons X2h (.cons M3w (.cons N2a (.cons X2g .nil)))))
theorem T1p:W1y fadd:=fun _ _=>rfl
theorem T1r:W1y fmul:=fun _ _=>rfl
theorem ok46:A0h Tryz.prog 198 (S 57 (R1e opsM)):=S_ok J1w 20 fun b a=>X4t opsM b a.1 a.2.1
theorem ok47:A0h Tryz.prog 121 (S 59 (R1e opsM)):=by
 rw[show R1e opsM=T2p opsM from funext fun b=>funext fun p=>R3z (o:=opsM) T1p T1r b p]
 exact S_ok J1w 20 fun b a=>X4u opsM b a.1 a.2.1
theorem ok48:A0h Tryz.prog 145 (S 57 (M0x opsM)):=S_ok J1w 20 fun b a=>E3p opsM b a.1 a.2.1
theorem ok49:A0h Tryz.prog 120 (S 59 (M0x opsM)):=S_ok J1w 20 fun b a=>E3q opsM b a.1 a.2.1
end Go.Ab
namespace Go.Ab
def isqB:Nat→Int→Int→Int
 | 0,r,_=>r
 | k+1,r,W=>bif decide ((r+2^k)*(r+2^k)≤W) then isqB k (r+2^k) W else isqB k r W
theorem L0c(k:Nat):(0:Int)<2^k:=Int.pow_pos (by omega)
theorem L0z(k:Nat):(2:Int)^(k+1)=2*2^k:=by rw[Int.pow_succ,Int.mul_comm]
theorem U0x:∀(k:Nat) (r W:Int),0≤r→r*r≤W→W<(r+2^k)*(r+2^k) →
  r≤isqB k r W∧isqB k r W<r+2^k∧isqB k r W*isqB k r W≤W∧W<(isqB k r W+1)*(isqB k r W+1)
 | 0,r,W,h0,h1,h2=>by
  simp only[isqB]
  have e:(2:Int)^0=1:=rfl
  rw[e]at h2 ⊢
  omega
 | k+1,r,W,h0,h1,h2=>by
  have hk:=L0c k
  have hs:=L0z k
  simp only[isqB]
  by_cases h:(r+2^k)*(r+2^k)≤W
  ·simp only[h,decide_true,cond_true]
   have e:r+2^k+2^k=r+2^(k+1):=by omega
   obtain ⟨a,b,c,d⟩:=U0x k (r+2^k) W (by omega) h (by rw[e];exact h2)
   refine ⟨by omega,by omega,c,d⟩
  ·simp only[h,decide_false,cond_false]
   obtain ⟨a,b,c,d⟩:=U0x k r W h0 h1 (by omega)
   refine ⟨a,by omega,c,d⟩
theorem Q0q{a b:Int}(hb:0≤b)(h:a*a<b*b):a<b:=by
 rcases Int.lt_or_le a b with h1 | h1
 ·exact h1
 ·have:b*b≤a*a:=Int.le_trans (Int.mul_le_mul_of_nonneg_right h1 hb) (Int.mul_le_mul_of_nonneg_left h1 (by omega))
  omega
theorem W1e{a b W:Int}(ha:0≤a)(hb:0≤b)(h1:a*a≤W)(h2:W<(a+1)*(a+1))(h3:b*b≤W)(h4:W<(b+1)*(b+1)):a=b:=by
 have x:a<b+1:=Q0q (by omega) (by omega)
 have y:b<a+1:=Q0q (by omega) (by omega)
 omega
def isq(W:Int):Int:=isqB 63 0 W
theorem L0k{W:Int}(h0:0≤W)(h1:W<2^126):0≤isq W∧isq W<2^63∧isq W*isq W≤W∧W<(isq W+1)*(isq W+1):=by
 have :=U0x 63 0 W (by omega) (by simpa using h0) (by
  rw[Int.zero_add,← Int.pow_add];exact h1)
 rw[Int.zero_add]at this
 exact this
theorem H3w{W:Int}(h0:0≤W)(h1:W<2^104):isqB 52 0 W=isq W:=by
 obtain ⟨a,b,c,d⟩:=U0x 52 0 W (by omega) (by simpa using h0) (by rw[Int.zero_add,← Int.pow_add];exact h1)
 have h2:W<2^126:=Int.lt_of_lt_of_le h1 (by decide)
 obtain ⟨a',b',c',d'⟩:=L0k h0 h2
 exact W1e a a' c d c' d'
end Go.Ab
namespace Go.Ab
open Go Go.Proofs
def rtSl:J0m:=[(0,.int .u64),(1,.int .u64),(5,.int .u64),(6,.int .u64)]
def rtSt(h l r bit:Int)(x:Nat→AV)(heap:Hp)(lo hi step:Nat):St:=lpSt 38 rtSl (nums 7 31) [h,l,r,bit] x heap lo hi step
theorem Q2e(mp:U6×U6×Unit→Bool)(mv:U6×U6×Unit→Two U6 U6)(h l r bit:Int)(x:Nat→AV)(heap:Hp)(lo hi step:Nat) :
  run Tryz.prog (B0v Tryz.prog {gam:=[(204,S0c mp mv)]} 1) 38 {quiet:=B0p [(204,S0c mp mv)]} [] 50 (Ex×St) (J0u (K0k Tryz.f199 0)) (rtSt h l r bit x heap lo hi step) (fun e s'=>some (e,G0c (nums 7 31) s')) =
   bif decide (bit>0) then bif mp (⟨orI r bit⟩,⟨orI r bit⟩,()) then
    bif decide ((mv (⟨orI r bit⟩,⟨orI r bit⟩,())).a.n<h) then some (.normal,rtSt h l (orI r bit) (srI bit 1) x heap lo hi step)
    else bif (mv (⟨orI r bit⟩,⟨orI r bit⟩,())).a.n==h then
     bif decide ((mv (⟨orI r bit⟩,⟨orI r bit⟩,())).b.n≤l) then some (.normal,rtSt h l (orI r bit) (srI bit 1) x heap lo hi step)
     else some (.normal,rtSt h l r (srI bit 1) x heap lo hi step)
    else some (.normal,rtSt h l r (srI bit 1) x heap lo hi step)
   else none
   else some (.exit 0,rtSt h l r bit x heap lo hi step):=by kernel_rfl
def L1k(R:Int→Int→Int→Int→Int):List Int→List Int
 | [h,l,r,bit]=>[h,l,R h l r bit,0]
 | xs=>xs
theorem Z2m(mp:U6×U6×Unit→Bool)(mv:U6×U6×Unit→Two U6 U6)(p:List Int→Bool)(R:Int→Int→Int→Int→Int)(h l:Int) :
  fnSum Tryz.prog {gam:=[(204,S0c mp mv)]} [(0,Q0a 38 rtSl (nums 7 31) p (L1k R))] 20 199 [.val (.int .u64 h),.val (.int .u64 l)] [] =
   bif p [h,l,0,4611686018427387904]then some (.val (.int .u64 (R h l 0 4611686018427387904)),[]) else none:=by kernel_rfl
theorem Z2n:C0n (Tryz.f199.body.getD .skip)=[(0,.loop (J0u (K0k Tryz.f199 0))),(1,K0k Tryz.f199 1)]:=by kernel_rfl
theorem N4t:Tryz.f199.ntmps=38:=by kernel_rfl
def bitK(bit:Int):Nat:=if bit=0 then 0 else bit.toNat.log2+1
theorem D2t:bitK 0=0:=rfl
theorem Y0z(n:Nat):bitK (2^n)=n+1:=by
 have h:=L0c n
 unfold bitK
 rw[if_neg (by omega)]
 have:((2:Int)^n).toNat=2^n:=by
  have:(2:Int)^n=((2^n:Nat):Int):=by simp
  rw[this,Int.toNat_natCast]
 rw[this,Nat.log2_two_pow]
def C1j:List Int→Bool
 | [h,l,r,bit]=>word h&&(word l&&decide ((bit=0∨bit=2^(bitK bit-1))∧0≤r∧r+2^bitK bit≤9223372036854775808∧r % 2^bitK bit=0))
 | _=>false
def rtR(h l r bit:Int):Int:=isqB (bitK bit) r (h*18446744073709551616+l)
def V0r:List Int→List Int:=L1k rtR
theorem V2y(n:Nat):srI (2^(n+1)) 1=2^n:=by
 have:srI (2^(n+1)) 1=2^(n+1) / 2^1:=C1w _ 1 (by omega)
 rw[this,L0z]
 omega
theorem N4r{h l r bit:Int}(hp:C1j [h,l,r,bit]=true) :
  (bit>0→word (orI r bit)=true∧∀r',r'=(bif decide (orI r bit*orI r bit≤h*18446744073709551616+l) then orI r bit else r) →
   C1j [h,l,r',srI bit 1]=true∧V0r [h,l,r',srI bit 1]=V0r [h,l,r,bit]∧bitK (srI bit 1)<bitK bit) ∧
  (¬ bit>0→V0r [h,l,r,bit]=[h,l,r,bit]):=by
 simp only[C1j,Bool.and_eq_true,decide_eq_true_eq]at hp
 obtain ⟨hh,hl,hb,hr0,hr1,hr2⟩:=hp
 refine ⟨fun hpos=>?_,fun hz=>?_⟩
 ·have hb:bit=2^(bitK bit-1):=by
   rcases hb with hb | hb
   ·omega
   ·exact hb
  generalize hn:bitK bit-1=n at hb
  subst hb
  rw[Y0z]at hn hr1 hr2 ⊢
  have hk:=L0c n
  have hs:=L0z n
  have ho:orI r (2^n)=r+2^n:=by
   have hd:r=r / 2^(n+1)*2^(n+1):=by
    have :=Int.ediv_mul_add_emod r (2^(n+1))
    omega
   have h0:0≤r / 2^(n+1):=Int.ediv_nonneg hr0 (by omega)
   conv=>lhs;rw[hd]
   rw[N2v _ _ (n+1) h0 (by omega) (by omega) (by rw[← hd];omega),← hd]
  rw[ho]
  refine ⟨by simp only[word,decide_eq_true_eq];omega,fun r' hr'=>?_⟩
  have hK:bitK (srI (2^n) 1)=n∧(srI (2^n) 1=0∨srI (2^n) 1=2^(n-1)):=by
   cases n with
   | zero =>
    have:srI (2^0) 1=0:=by decide
    rw[this]
    exact ⟨rfl,.inl rfl⟩
   | succ m =>
    rw[V2y,Y0z]
    exact ⟨rfl,.inr rfl⟩
  obtain ⟨hK1,hK2⟩:=hK
  refine ⟨?_,?_,by omega⟩
  ·simp only[C1j,Bool.and_eq_true,decide_eq_true_eq,hK1]
   have hmod:r % 2^n=0:=by
    have:(2:Int)^n ∣ r:=Int.dvd_trans ⟨2,by omega⟩ (Int.dvd_of_emod_eq_zero hr2)
    exact Int.emod_eq_zero_of_dvd this
   refine ⟨hh,hl,hK2,?_,?_,?_⟩
   all_goals
    cases hc:decide ((r+2^n)*(r+2^n)≤h*18446744073709551616+l)<;>rw[hc]at hr'<;>simp only[cond_true,cond_false]at hr'<;>subst hr'
   ·omega
   ·omega
   ·omega
   ·omega
   ·exact hmod
   ·rw[Int.add_emod_right];exact hmod
  ·simp only[V0r,L1k,rtR,hK1,Y0z,isqB]
   subst hr'
   cases decide ((r+2^n)*(r+2^n)≤h*18446744073709551616+l)<;>rfl
 ·have hb0:bit=0:=by
   rcases hb with hb | hb
   ·exact hb
   ·have :=L0c (bitK bit-1)
    omega
  subst hb0
  simp only[V0r,L1k,rtR,D2t,isqB]
def V1u:M0e:=[(0,Q0a 38 rtSl (nums 7 31) C1j V0r)]
theorem L5y:∀fn c,Tryz.prog.funcs[199]?=some fn→fn.body=some c→HFit Tryz.prog fn.ntmps V1u c:=by
 intro fn c hf hb
 rw[Tryz.func199]at hf
 cases hf
 have hc:Tryz.f199.body.getD .skip=c:=by rw[hb];rfl
 rw[N4t]
 have hL:=Z2n
 rw[hc]at hL
 have hcall:∀β,D0t Tryz.prog (B0v Tryz.prog {gam:=[(204,S0c B0h J0g)]} 1 β):=B0b (.cons X2m .nil) 1
 refine HFit.of fun p hp h hh s s' hs=>?_
 rw[hL]at hp
 simp only[List.mem_cons,List.not_mem_nil,or_false]at hp
 rcases hp with rfl | rfl
 ·have:h=Q0a 38 rtSl (nums 7 31) C1j V0r:=(Option.some.inj hh).symm
  subst this
  refine J3n hcall (F:=50) (wy:={quiet:=B0p [(204,S0c B0h J0g)]}) (fun xs=>bitK (xs.getD 3 0)) ?_ s s' hs
  intro xs hlen hpre x heap lo hi step
  obtain ⟨hw,l,r,bit,rfl⟩:∃a b c d,xs=[a,b,c,d]:=by
   match xs,hlen with
   | [a,b,c,d],_=>exact ⟨a,b,c,d,rfl⟩
  obtain ⟨h1,h2⟩:=N4r hpre
  have hr:=Q2e B0h J0g hw l r bit x heap lo hi step
  unfold rtSt at hr
  rw[hr]
  by_cases hbit:bit>0
  ·obtain ⟨k1,k2⟩:=h1 hbit
   have hpre':=hpre
   simp only[C1j,Bool.and_eq_true,decide_eq_true_eq]at hpre'
   obtain ⟨hh',hl',_⟩:=hpre'
   have hm:B0h (⟨orI r bit⟩,⟨orI r bit⟩,())=true:=by simp only[B0h,k1,Bool.and_self]
   simp only[hbit,decide_true,cond_true,hm,J0g]
   generalize orI r bit=t at *
   have ht0:0≤t*t:=by
    simp only[word,decide_eq_true_eq]at k1
    exact Int.mul_nonneg k1.1 k1.1
   simp only[word,decide_eq_true_eq]at hh' hl'
   have step1:∀r',r'=(bif decide (t*t≤hw*18446744073709551616+l) then t else r) →
     ∃ys,ys.length=J0k rtSl∧C1j ys=true∧bitK (ys.getD 3 0)<bitK ([hw,l,r,bit].getD 3 0)∧V0r ys=V0r [hw,l,r,bit] ∧
      (some (Ex.normal,lpSt 38 rtSl (nums 7 31) [hw,l,r',srI bit 1] x heap lo hi step):Option (Ex×St))=some (.normal,lpSt 38 rtSl (nums 7 31) ys x heap lo hi step):=by
    intro r' hr'
    obtain ⟨a1,a2,a3⟩:=k2 r' hr'
    exact ⟨_,rfl,a1,by simpa only[List.getD_cons_succ,List.getD_cons_zero]using a3,a2,rfl⟩
   by_cases c1:t*t / 18446744073709551616<hw
   ·simp only[c1,decide_true,cond_true]
    refine .inl (step1 t ?_)
    have:t*t≤hw*18446744073709551616+l:=by omega
    rw[decide_eq_true this,cond_true]
   ·simp only[c1,decide_false,cond_false]
    by_cases c2:t*t / 18446744073709551616=hw
    ·simp only[c2,BEq.rfl,cond_true]
     by_cases c3:t*t % 18446744073709551616≤l
     ·simp only[c3,decide_true,cond_true]
      refine .inl (step1 t ?_)
      have:t*t≤hw*18446744073709551616+l:=by omega
      rw[decide_eq_true this,cond_true]
     ·simp only[c3,decide_false,cond_false]
      refine .inl (step1 r ?_)
      have:¬ t*t≤hw*18446744073709551616+l:=by omega
      rw[decide_eq_false this,cond_false]
    ·have e:(t*t / 18446744073709551616==hw)=false:=by simp;exact c2
     rw[e,cond_false]
     refine .inl (step1 r ?_)
     have:¬ t*t≤hw*18446744073709551616+l:=by omega
     rw[decide_eq_false this,cond_false]
  ·simp only[hbit,decide_false,cond_false]
   refine .inr ?_
   rw[h2 hbit]
 ·simp[W0r,V1u]at hh
def J0r(p:U6×U6×Unit):Bool:=word p.1.n&&word p.2.1.n
def K0x(p:U6×U6×Unit):U6:=⟨isq (p.1.n*18446744073709551616+p.2.1.n)⟩
theorem K4n:A0h Tryz.prog 199 (S0c J0r K0x):=by
 have hG:GamOk Tryz.prog [(204,S0c B0h J0g)]:=.cons X2m .nil
 refine H1q (E:={gam:=[(204,S0c B0h J0g)]}) hG (hB:=V1u) L5y 20 fun p hp=>?_
 obtain ⟨⟨h⟩,⟨l⟩,_⟩:=p
 refine (Z2m B0h J0g C1j rtR h l).trans ?_
 have hk:bitK 4611686018427387904=63:=by
  have:(4611686018427387904:Int)=2^62:=by decide
  rw[this,Y0z]
 simp only[J0r,Bool.and_eq_true]at hp
 have hpre:C1j [h,l,0,4611686018427387904]=true:=by
  simp only[C1j,Bool.and_eq_true,decide_eq_true_eq,hk]
  exact ⟨hp.1,hp.2,.inr (by decide),by omega,by decide,by decide⟩
 rw[hpre,cond_true]
 simp only[rtR,hk]
 rfl
instance:Cod Unit where
 enc _:=.tuple #[]
 dec v:=match v with | .tuple ⟨[]⟩=>some () | _=>none
 law v a h:=by split at h<;>simp_all
def E2w(_:Bool)(_:Unit):Unit×Bool:=((),true)
theorem K4j:A0h Tryz.prog 131 (S 57 E2w):=S_ok (E:={gam:=[]}) GamOk.nil 20 fun f a=>by kernel_rfl
theorem H5x:A0h Tryz.prog 113 (S 59 E2w):=S_ok (E:={gam:=[]}) GamOk.nil 20 fun f a=>by kernel_rfl
def fmod(f:Bool)(a m:Int):Int×Bool:=bif f||!C0r [a,m]then (0,true) else bif decide (m≤0) then (0,true) else (a % m,false)
theorem H5c(a m:Int)(f:Bool):fnSum Tryz.prog {gam:=[]} [] 20 217 [.ptr 0 0,.val (.int .i64 a),.val (.int .i64 m)] (row 57 f) =
  ptk [a,m] f fun f=>bif !!f then some (.val (.int .i64 0),row 57 true) else bif decide (m≤0) then some (.val (.int .i64 0),row 57 true) else bif m==0 then none else bif m==0 then none else
   some (.val (.int .i64 ((IntKind.i64.wrap (a.tmod m+m)).tmod m)),row 57 f):=by kernel_rfl
theorem D4n(a m:Int)(f:Bool):fnSum Tryz.prog {gam:=[]} [] 20 185 [.ptr 0 0,.val (.int .i64 a),.val (.int .i64 m)] (row 59 f) =
  rtk [a,m] f fun f=>bif !!f then some (.val (.int .i64 0),row 59 f) else bif decide (m≤0) then some (.val (.int .i64 0),row 59 true) else bif m==0 then none else
   bif decide (a.tmod m<0) then some (.val (.int .i64 (IntKind.i64.wrap (a.tmod m+m))),row 59 f) else some (.val (.int .i64 (a.tmod m)),row 59 f):=by kernel_rfl
theorem Z1e{a m:Int}(hm:0<m):-m<a.tmod m∧a.tmod m<m∧(a.tmod m<0→a % m=a.tmod m+m)∧(0≤a.tmod m→a % m=a.tmod m):=by
 rcases Int.lt_or_le a 0 with h | h
 ·have e:a.tmod m=-((-a) % m):=by
   have :=Int.neg_tmod (a:=-a) (b:=m)
   rw[Int.neg_neg]at this
   rw[this,Int.tmod_eq_emod_of_nonneg (by omega)]
  have r0:=Int.emod_nonneg (-a) (b:=m) (by omega)
  have r1:=Int.emod_lt_of_pos (-a) hm
  have e2:a % m=if (-a) % m=0 then 0 else m-(-a) % m:=by
   have d1:m*((-a) / m)+(-a) % m=-a:=Int.mul_ediv_add_emod (-a) m
   split
   ·rename_i hz
    rw[hz]at d1
    have:a=m*(-((-a) / m)):=by rw[Int.mul_neg];omega
    rw[this]
    exact Int.mul_emod_right _ _
   ·rename_i hz
    have:a=(m-(-a) % m)+m*(-((-a) / m)-1):=by rw[Int.mul_sub,Int.mul_neg];omega
    have h3:a % m=((m-(-a) % m)+m*(-((-a) / m)-1)) % m:=by rw[← this]
    rw[h3,Int.add_mul_emod_self_left,Int.emod_eq_of_lt (by omega) (by omega)]
  rw[e,e2]
  refine ⟨by omega,by omega,fun h=>?_,fun h=>?_⟩
  ·split<;>omega
  ·split<;>omega
 ·have e:a.tmod m=a % m:=Int.tmod_eq_emod_of_nonneg h
  have r0:=Int.emod_nonneg a (b:=m) (by omega)
  have r1:=Int.emod_lt_of_pos a hm
  rw[e]
  exact ⟨by omega,r1,fun h=>by omega,fun _=>rfl⟩
theorem L3y{f:Bool}{a b:Int}(h:(f||!C0r [a,b])=false):f=false∧num a=true∧num b=true:=by
 simp only[Bool.or_eq_false_iff,Bool.not_eq_false',C0r,Bool.and_true,Bool.and_eq_true]at h
 exact ⟨h.1,h.2.1,h.2.2⟩
theorem ok56:A0h Tryz.prog 217 (S 57 (op2 fmod)):=S_ok (E:={gam:=[]}) GamOk.nil 20 fun f p=>by
 obtain ⟨a,m,_⟩:=p
 refine ((H5c a m f).trans (B1z _ _ _)).trans ?_
 show _=some (AV.val (Cod.enc (fmod f a m).1),row 57 (fmod f a m).2)
 unfold fmod
 cases hb:(f||!C0r [a,m]) with
 | true=>rfl
 | false =>
  obtain ⟨rfl,ha,hm⟩:=L3y hb
  by_cases h0:m≤0
  ·simp only[h0,decide_true,cond_true];rfl
  ·have h1:(m==0)=false:=by simp;omega
   rw[G0e]at ha hm
   obtain ⟨t1,t2,t3,t4⟩:=Z1e (a:=a) (m:=m) (by omega)
   have e:(IntKind.i64.wrap (a.tmod m+m)).tmod m=a % m:=by
    rw[A0q (by omega) (by omega),Int.tmod_eq_emod_of_nonneg (by omega),Int.add_emod_right]
    rcases Int.lt_or_le (a.tmod m) 0 with h | h
    ·rw[t3 h]
     have:a.tmod m=(a.tmod m+m)+m*(-1):=by omega
     rw[this,Int.add_mul_emod_self_left,Int.emod_eq_of_lt (by omega) (by omega)]
     omega
    ·rw[t4 h,Int.emod_eq_of_lt h t2]
   simp only[h0,h1,e,decide_false,cond_false]
   rfl
theorem M3x:A0h Tryz.prog 185 (S 59 (op2 fmod)):=S_ok (E:={gam:=[]}) GamOk.nil 20 fun f p=>by
 obtain ⟨a,m,_⟩:=p
 refine ((D4n a m f).trans (C1h _ _ _)).trans ?_
 show _=some (AV.val (Cod.enc (fmod f a m).1),row 59 (fmod f a m).2)
 unfold fmod
 cases hb:(f||!C0r [a,m]) with
 | true=>rfl
 | false =>
  obtain ⟨rfl,ha,hm⟩:=L3y hb
  by_cases h0:m≤0
  ·simp only[h0,decide_true,cond_true];rfl
  ·have h1:(m==0)=false:=by simp;omega
   rw[G0e]at ha hm
   obtain ⟨t1,t2,t3,t4⟩:=Z1e (a:=a) (m:=m) (by omega)
   rcases Int.lt_or_le (a.tmod m) 0 with h | h
   ·rw[A0q (z:=a.tmod m+m) (by omega) (by omega),t3 h]
    simp only[h0,h1,h,decide_true,decide_false,cond_true,cond_false]
    rfl
   ·have h':¬ a.tmod m<0:=by omega
    rw[t4 h]
    simp only[h0,h1,h',decide_false,cond_false]
    rfl
def J1r(f:Bool)(a:Int):Int×Bool:=bif f||!C0r [a]then (0,true) else bif decide (a<0) then (0,true) else (isq (a*1099511627776),false)
theorem R3g(rp:U6×U6×Unit→Bool)(rv:U6×U6×Unit→U6)(gv:Bool→Int×Bool×Unit→Int×Bool)(a:Int)(f:Bool) :
  fnSum Tryz.prog {gam:=[(153,S 57 gv),(199,S0c rp rv)]} [] 20 141 [.ptr 0 0,.val (.int .i64 a)] (row 57 f) =
  ptk [a] f fun f=>bif !!f then some (.val (.int .i64 0),row 57 true) else bif decide (a<0) then some (.val (.int .i64 0),row 57 true) else
   bif rp (⟨srI (IntKind.u64.wrap a) 24⟩,⟨shI (IntKind.u64.wrap a) 40⟩,()) then
    some (.val (.int .i64 (gv f (IntKind.i64.wrap (rv (⟨srI (IntKind.u64.wrap a) 24⟩,⟨shI (IntKind.u64.wrap a) 40⟩,())).n,true,())).1),row 57 (gv f (IntKind.i64.wrap (rv (⟨srI (IntKind.u64.wrap a) 24⟩,⟨shI (IntKind.u64.wrap a) 40⟩,())).n,true,())).2)
   else none:=by kernel_rfl
theorem H2q{W:Int}(h0:0≤W)(h1:W<2^102+1):0≤isq W∧isq W≤2251799813685248:=by
 obtain ⟨a,b,c,d⟩:=L0k h0 (Int.lt_of_lt_of_le h1 (by decide))
 refine ⟨a,?_⟩
 have:isq W<2251799813685248+1:=Q0q (by omega) (by
  have e:(2:Int)^102=5070602400912917605986812821504:=by decide
  omega)
 omega
theorem H1g{a:Int}(ha:0≤a)(hm:a≤4611686018427387904):0≤a*1099511627776∧a*1099511627776<2^102+1:=by
 have e:(2:Int)^102=5070602400912917605986812821504:=by decide
 omega
theorem J5a:A0h Tryz.prog 141 (S 57 (op1 J1r)):=by
 have hG:GamOk Tryz.prog [(153,S 57 gvV),(199,S0c J0r K0x)]:=.cons M3y (.cons K4n .nil)
 refine S_ok (E:={gam:=[(153,S 57 gvV),(199,S0c J0r K0x)]}) hG 20 fun f p=>?_
 obtain ⟨a,_⟩:=p
 refine ((R3g J0r K0x gvV a f).trans (B1z _ _ _)).trans ?_
 show _=some (AV.val (Cod.enc (J1r f a).1),row 57 (J1r f a).2)
 unfold J1r
 cases hb:(f||!C0r [a]) with
 | true=>rfl
 | false =>
  simp only[Bool.or_eq_false_iff,Bool.not_eq_false',C0r,Bool.and_true,G0e]at hb
  obtain ⟨rfl,ha⟩:=hb
  by_cases h0:a<0
  ·simp only[h0,decide_true,cond_true];rfl
  ·have hw:IntKind.u64.wrap a=a:=A0r (by omega) (by omega)
   have e1:srI a 24=a / 16777216:=C1w a 24 (by omega)
   have e2:shI a 40=a*1099511627776 % 18446744073709551616:=C1q a 40 (by omega)
   have hpre:J0r (⟨a / 16777216⟩,⟨a*1099511627776 % 18446744073709551616⟩,())=true:=by
    simp only[J0r,word,Bool.and_eq_true,decide_eq_true_eq];omega
   have hv:K0x (⟨a / 16777216⟩,⟨a*1099511627776 % 18446744073709551616⟩,())=⟨isq (a*1099511627776)⟩:=by
    simp only[K0x]
    congr 2
    omega
   obtain ⟨b0,b1⟩:=H1g (a:=a) (by omega) (by omega)
   obtain ⟨i0,i1⟩:=H2q b0 b1
   rw[hw,e1,e2,hpre,hv]
   simp only[h0,decide_false,cond_false,cond_true]
   rw[A0q (z:=isq (a*1099511627776)) (by omega) (by omega),H2c,show num (isq (a*1099511627776))=true from G0e.2 (by omega)]
   rfl
variable {β:Type}
def R2b(mp:U6×U6×Unit→Bool)(mv:U6×U6×Unit→Two U6 U6)(x h l:Int)(K:Int→Int→Option β):Option β :=
 bif mp (⟨x⟩,⟨x⟩,()) then
  bif decide (0≤l)&&(decide (0≤(mv (⟨x⟩,⟨x⟩,())).b.n)&&(decide ((0:Int)≤0)&&decide ((0:Int)≤1))) then
   bif decide (0≤h)&&(decide (0≤(mv (⟨x⟩,⟨x⟩,())).a.n)&&(decide (0≤(l+(mv (⟨x⟩,⟨x⟩,())).b.n+0) / 18446744073709551616)&&decide ((l+(mv (⟨x⟩,⟨x⟩,())).b.n+0) / 18446744073709551616≤1))) then
    K ((h+(mv (⟨x⟩,⟨x⟩,())).a.n+(l+(mv (⟨x⟩,⟨x⟩,())).b.n+0) / 18446744073709551616) % 18446744073709551616) ((l+(mv (⟨x⟩,⟨x⟩,())).b.n+0) % 18446744073709551616)
   else none
  else none
 else none
theorem L3w(mp:U6×U6×Unit→Bool)(mv:U6×U6×Unit→Two U6 U6)(rp:U6×U6×Unit→Bool)(rv:U6×U6×Unit→U6)(sz:Int×Unit→Two U6 U6)(gv:Bool→Int×Bool×Unit→Int×Bool)(a b c:Int)(f:Bool) :
  fnSum Tryz.prog {gam:=[(153,S 57 gv),(199,S0c rp rv),(203,S0 sz),(204,S0c mp mv)]} [] 20 195 [.ptr 0 0,.val (.int .i64 a),.val (.int .i64 b),.val (.int .i64 c)] (row 57 f) =
  ptk [a,b,c] f fun f=>bif !!f then some (.val (.int .i64 0),row 57 f) else
   R2b mp mv (sz (a,())).a.n 0 0 fun h l=>R2b mp mv (sz (b,())).a.n h l fun h l=>R2b mp mv (sz (c,())).a.n h l fun h l =>
    bif rp (⟨h⟩,⟨l⟩,()) then some (.val (.int .i64 (gv f (IntKind.i64.wrap (rv (⟨h⟩,⟨l⟩,())).n,decide ((rv (⟨h⟩,⟨l⟩,())).n≤4611686018427387904),())).1),row 57 (gv f (IntKind.i64.wrap (rv (⟨h⟩,⟨l⟩,())).n,decide ((rv (⟨h⟩,⟨l⟩,())).n≤4611686018427387904),())).2) else none:=by kernel_rfl
theorem L1t{x S:Int}(hx0:0≤x)(hx1:x≤4611686018427387904)(hS0:0≤S)(hS1:S≤42535295865117307932921825928971026432)(K:Int→Int→Option β) :
  R2b B0h J0g x (S / 18446744073709551616) (S % 18446744073709551616) K=K ((S+x*x) / 18446744073709551616) ((S+x*x) % 18446744073709551616):=by
 have n0:0≤x*x:=Int.mul_nonneg hx0 hx0
 have n1:x*x≤4611686018427387904*4611686018427387904:=Int.le_trans (Int.mul_le_mul_of_nonneg_right hx1 hx0) (Int.mul_le_mul_of_nonneg_left hx1 (by omega))
 have hm:B0h (⟨x⟩,⟨x⟩,())=true:=by simp only[B0h,word,Bool.and_eq_true,decide_eq_true_eq];omega
 unfold R2b
 rw[hm,cond_true]
 obtain ⟨N,hN⟩:∃N,x*x=N:=⟨_,rfl⟩
 simp only[J0g,hN]
 rw[hN]at n0 n1
 have c1:(decide (0≤S % 18446744073709551616)&&(decide (0≤N % 18446744073709551616)&&(decide ((0:Int)≤0)&&decide ((0:Int)≤1))))=true:=by
  simp only[Bool.and_eq_true,decide_eq_true_eq];omega
 have c2:(decide (0≤S / 18446744073709551616)&&(decide (0≤N / 18446744073709551616)&&(decide (0≤(S % 18446744073709551616+N % 18446744073709551616+0) / 18446744073709551616)&&decide ((S % 18446744073709551616+N % 18446744073709551616+0) / 18446744073709551616≤1))))=true:=by
  simp only[Bool.and_eq_true,decide_eq_true_eq];omega
 rw[c1,c2,cond_true,cond_true]
 congr 1<;>omega
def E0g(f:Bool)(a b c:Int):Int×Bool :=
 bif f||!C0r [a,b,c]then (0,true) else bif decide (isq (a*a+b*b+c*c)>4611686018427387904) then (0,true) else (isq (a*a+b*b+c*c),false)
theorem K1a(a:Int):iabs a*iabs a=a*a:=by
 unfold iabs
 cases decide (a<0)
 ·rfl
 ·simp only[cond_true]
  rw[Int.zero_sub,Int.neg_mul_neg]
theorem N0y{a:Int}(h:num a=true):0≤a*a∧a*a≤21267647932558653966460912964485513216:=by
 obtain ⟨h0,h1⟩:=G0g h
 rw[← K1a]
 exact ⟨Int.mul_nonneg h0 h0,Int.le_trans (Int.mul_le_mul_of_nonneg_right h1 h0) (by omega)⟩
theorem L3z{f:Bool}{a b c:Int}(h:(f||!C0r [a,b,c])=false):f=false∧num a=true∧num b=true∧num c=true:=by
 simp only[Bool.or_eq_false_iff,Bool.not_eq_false',C0r,Bool.and_true,Bool.and_eq_true]at h
 exact ⟨h.1,h.2.1,h.2.2.1,h.2.2.2⟩
theorem J5d:A0h Tryz.prog 195 (S 57 (op3 E0g)):=by
 have hG:GamOk Tryz.prog [(153,S 57 gvV),(199,S0c J0r K0x),(203,S0 szV),(204,S0c B0h J0g)]:=.cons M3y (.cons K4n (.cons K4p (.cons X2m .nil)))
 refine S_ok (E:={gam:=[(153,S 57 gvV),(199,S0c J0r K0x),(203,S0 szV),(204,S0c B0h J0g)]}) hG 20 fun f p=>?_
 obtain ⟨a,b,c,_⟩:=p
 refine ((L3w B0h J0g J0r K0x szV gvV a b c f).trans (B1z _ _ _)).trans ?_
 show _=some (AV.val (Cod.enc (E0g f a b c).1),row 57 (E0g f a b c).2)
 unfold E0g
 cases hb:(f||!C0r [a,b,c]) with
 | true=>rfl
 | false =>
  obtain ⟨rfl,ha,hb',hc⟩:=L3z hb
  obtain ⟨a3,a4⟩:=G0g ha
  obtain ⟨b3,b4⟩:=G0g hb'
  obtain ⟨c3,c4⟩:=G0g hc
  obtain ⟨a5,a6⟩:=N0y ha
  obtain ⟨b5,b6⟩:=N0y hb'
  obtain ⟨c5,c6⟩:=N0y hc
  simp only[(U0b ha).1,(U0b hb').1,(U0b hc).1,Bool.not_false,Bool.not_true,cond_false]
  have s1:=fun K=>L1t (β:=AV×List Con) (x:=iabs a) (S:=0) a3 a4 (by omega) (by omega) K
  have s2:=fun K=>L1t (β:=AV×List Con) (x:=iabs b) (S:=a*a) b3 b4 (by omega) (by omega) K
  have s3:=fun K=>L1t (β:=AV×List Con) (x:=iabs c) (S:=a*a+b*b) c3 c4 (by omega) (by omega) K
  rw[K1a,Int.zero_add]at s1
  rw[K1a]at s2 s3
  have z:(0:Int) / 18446744073709551616=0∧(0:Int) % 18446744073709551616=0:=by decide
  rw[z.1,z.2]at s1
  rw[s1,s2,s3]
  generalize hW:a*a+b*b+c*c=W at *
  have hpre:J0r (⟨W / 18446744073709551616⟩,⟨W % 18446744073709551616⟩,())=true:=by
   simp only[J0r,word,Bool.and_eq_true,decide_eq_true_eq];omega
  have hv:K0x (⟨W / 18446744073709551616⟩,⟨W % 18446744073709551616⟩,())=⟨isq W⟩:=by
   simp only[K0x]
   congr 2
   omega
  have e126:(2:Int)^126=85070591730234615865843651857942052864:=by decide
  have e63:(2:Int)^63=9223372036854775808:=by decide
  obtain ⟨i0,i1,_,_⟩:=L0k (W:=W) (by omega) (by omega)
  rw[hpre,hv,cond_true]
  dsimp only
  rw[A0q (z:=isq W) (by omega) (by omega)]
  by_cases hq:isq W>4611686018427387904
  ·have hq':¬ isq W≤4611686018427387904:=by omega
   simp only[hq,hq',decide_true,decide_false,cond_true]
   rfl
  ·have hq':isq W≤4611686018427387904:=by omega
   simp only[hq,hq',decide_true,decide_false,cond_false]
   rw[H2c,show num (isq W)=true from G0e.2 (by omega)]
   rfl
end Go.Ab
namespace Go.Ab
def lrSt(N:Nat)(sl:J0m)(fx:List (Nat×Nat×Nat))(G:List Nat)(c:Con)(rows:R0z)(xs:List Int)(x:Nat→AV)(lo hi step:Nat):St:=⟨tmA N (lqTm N sl fx G xs) x,(0,c) :: wrH rows (xs.drop (J0k sl)),lo,hi,step,[]⟩
def Y0j(N:Nat)(sl:J0m)(fx:List (Nat×Nat×Nat))(G:List Nat)(rows:R0z)(pre:List Int→Bool)(post:List Int→List Int)(s:St):HTr :=
 match s.heap with
 | []=>.no
 | (b0,c) :: hp=>match rdI s.tmps sl,rdH rows hp,fxOk s.tmps fx,Nat.beq s.tmps.length N&&Nat.beq b0 0 with
  | some xs,some ys,true,true=>.test (pre (xs++ys)) (.ret {s with tmps:=ovL (lqTm N sl fx G (post (xs++ys))) 0 s.tmps,heap:=(0,c) :: wrH rows ((post (xs++ys)).drop (J0k sl)),log:=sl.map (fun p=>.tmp p.1)++(fx.map (fun p=>.tmp p.1)++(G.map .tmp++(rows.map (fun p=>.blk p.1)++s.log)))}) .no
  | _,_,_,_=>.no
theorem C4u{P:Program}{call:Y0r}(hcall:∀β,D0t P (call β)){N F id:Nat}{wy:Way}{body:Code}{sl:J0m}{fx:List (Nat×Nat×Nat)}{G:List Nat}{rows:R0z}{pre:List Int→Bool}{post:List Int→List Int}(μ:List Int→Nat)
  (hstep:∀xs,xs.length=J0k sl+P0a rows→pre xs=true→∀c x lo hi step,
   (∃ys,ys.length=J0k sl+P0a rows∧pre ys=true∧μ ys<μ xs∧post ys=post xs∧run P call N wy [] F (Ex×St) body (lrSt N sl fx G c rows xs x lo hi step) (fun e s'=>some (e,G0c G s'))=some (.normal,lrSt N sl fx G c rows ys x lo hi step)) ∨
   run P call N wy [] F (Ex×St) body (lrSt N sl fx G c rows xs x lo hi step) (fun e s'=>some (e,G0c G s'))=some (.exit id,lrSt N sl fx G c rows (post xs) x lo hi step)) :
  ∀s s',(Y0j N sl fx G rows pre post s).sel=some s'→A0b P N (.block id (.loop body)) s .normal s'∧J0v s s':=by
 intro s s' hs
 unfold Y0j at hs
 split at hs
 ·simp[HTr.sel]at hs
 rename_i b0 c hp0 hh0
 split at hs
 ·rename_i xs ys hxs hys hfx hNN
  simp only[Bool.and_eq_true]at hNN
  have hN:=Nat.eq_of_beq_eq_true hNN.1
  have hb0:=Nat.eq_of_beq_eq_true hNN.2
  subst hb0
  simp only[HTr.sel]at hs
  cases hp:pre (xs++ys) with
  | false=>rw[hp]at hs;cases hs
  | true =>
   rw[hp]at hs
   simp only[cond_true,Option.some.injEq]at hs
   subst hs
   obtain ⟨hlen,_⟩:=L1d hxs
   have hmem:=M1e ys hxs
   obtain ⟨hlen2,hheap⟩:=P2v hys
   have hfix:=J1u hfx
   have hdrop:(xs++ys).drop (J0k sl)=ys:=by rw[← hlen];simp
   let x:Nat→AV:=fun i=>s.tmps.getD i .any
   refine ⟨?_,?_⟩
   ·let ι:={xs:List Int // xs.length=J0k sl+P0a rows∧pre xs=true}
    have hl:=A0b.loop (P:=P) (N:=N) (c:=body) (ι:=ι) (fun i=>lrSt N sl fx G c rows i.1 x s.lo s.hi s.step) (fun i=>μ i.1) (fun i=>lrSt N sl fx G c rows (post i.1) x s.lo s.hi s.step) (.exit id) (by
     intro ⟨xs,h1,h2⟩
     rcases hstep xs h1 h2 c x s.lo s.hi s.step with ⟨ys,k1,k2,k3,k4,k5⟩ | k
     ·exact .inl ⟨⟨ys,k1,k2⟩,k3,by simp only[k4],X0n hcall G k5⟩
     ·exact .inr ⟨X0n hcall G k,by simp⟩) ⟨xs++ys,by simp[hlen,hlen2],hp⟩
    have hb:=A0b.block hl (.inr rfl)
    refine (hb.weak_start (s0:=s) ?_ (Nat.le_refl _) (Nat.le_refl _)).weak_end ?_ (Nat.le_refl _) (Nat.le_refl _)
    ·intro l c' h
     cases l with
     | blk b =>
      simp only[St.u,lrSt,stU,hdrop,hheap]at h
      rw[← hh0]at h
      exact ⟨c',h,WkC.refl c'⟩
     | tmp t =>
      simp only[St.u,lrSt,stU,M1a]at h
      split at h
      ·rename_i ht
       simp only[Option.map_some,Option.some.injEq]at h
       have hst:s.tmps[t]?=some (x t):=by
        have:t<s.tmps.length:=by omega
        simp[x,this]
       refine ⟨.av (x t),by simp[St.u,stU,hst],?_⟩
       subst h
       rcases K0w (lqTm N sl fx G (xs++ys)) x t with ⟨p,h1,h2,h3⟩ | ⟨h1,_⟩
       ·rw[h3]
        unfold lqTm at h1
        rcases List.mem_append.1 h1 with h1 | h1
        ·have :=hmem p h1
         rw[h2,hst]at this
         rw[← Option.some.inj this]
         exact WkC.refl _
        ·rcases List.mem_append.1 h1 with h1 | h1
         ·have :=hfix p h1
          rw[h2,hst]at this
          rw[← Option.some.inj this]
          exact WkC.refl _
         ·simp only[anys,List.mem_map]at h1
          obtain ⟨g,_,rfl⟩:=h1
          exact fun _ _ _=>by simp only[Rel]
       ·rw[h1];exact WkC.refl _
      ·simp at h
    ·intro l c' h
     refine ⟨c',?_,WkC.refl c'⟩
     have e:=V1g hN (lqTm N sl fx G (post (xs++ys)))
     simpa only[St.u,lrSt,e]using h
   ·refine ⟨fun l hl=>by simp[hl],fun l hl=>?_⟩
    cases l with
    | blk b =>
     have hno:∀q∈rows,q.1≠b:=by
      intro q hq e
      apply hl
      simp only[List.mem_append,List.mem_map]
      exact .inr (.inr (.inr (.inl ⟨q,hq,by rw[e]⟩)))
     have h1:∀zs,hget (wrH rows zs) b=none:=by
      intro zs
      cases hz:hget (wrH rows zs) b with
      | none=>rfl
      | some c=>obtain ⟨q,h2,h3⟩:=W1v hz;exact absurd h3 (hno q h2)
     show hget ((0,c) :: wrH rows _) b=hget s.heap b
     rw[hh0,← hheap]
     simp only[hget,h1]
    | tmp t =>
     simp only[St.u,stU,B1u,Nat.zero_add]
     cases ht:s.tmps[t]? with
     | none=>rfl
     | some a =>
      simp only[Option.map_some,Option.some.injEq,Con.av.injEq]
      rcases K0w (lqTm N sl fx G (post (xs++ys))) (fun _=>a) t with ⟨p,h1,h2,h3⟩ | ⟨h1,_⟩
      ·exfalso
       apply hl
       simp only[List.mem_append,List.mem_map]
       unfold lqTm at h1
       rcases List.mem_append.1 h1 with h1 | h1
       ·obtain ⟨q,h4,h5⟩:=Z0j h1
        exact .inl ⟨q,h4,by rw[h5,h2]⟩
       ·rcases List.mem_append.1 h1 with h1 | h1
        ·simp only[fxs,List.mem_map]at h1
         obtain ⟨q,h4,rfl⟩:=h1
         exact .inr (.inl ⟨q,h4,by rw[← h2]⟩)
        ·simp only[anys,List.mem_map]at h1
         obtain ⟨g,h4,rfl⟩:=h1
         exact .inr (.inr (.inl ⟨g,h4,by rw[← h2]⟩))
      ·exact h1
 ·simp[HTr.sel]at hs
end Go.Ab
